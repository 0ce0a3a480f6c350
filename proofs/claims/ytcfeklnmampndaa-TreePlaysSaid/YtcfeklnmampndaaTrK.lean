/-
  Plain: who was gone into, who was marked.
-/
import Derived.Test.YtcfeklnmampndaaTrFH
import Derived.Test.YtcfeklnmampndaaSlC
set_option linter.unusedSimpArgs false
set_option linter.unusedVariables false
namespace Go.Proofs.Ytcfeklnmampndaa
open Go Go.Sn Go.RowKit

section
variable {K : Type} [DecidableEq K] {V : Type} {kc : K → Value} {vc : V → D}
variable {P : Program} {W : World} {f : FuncId} {N : Nat} {Q : D → Heap → Prop} {ops : Array Oper} {ol : List Oper} {kk : List Item} {env : Env} {H : Heap}
variable {dst : Option Tmp} {ty : TypeId} {pos : String} {aft : Array Edge} {ok : K → Prop} {z : V} {t : TypeId} {l : List (K × V)} {k : K} {b : Nat}
theorem runO_lookupMG (M : MT P t kc vc ok z) {m x : Operand} {j : Nat} {g : Bool} {cs : List Bool} (ht : guardA ops env j g = some cs) (hm : stripL cs (ev env m) = .v (.map (some b))) (hb : H b = some (.map (entC kc vc l))) (hl : MOk ok l) (hx : litV (stripL cs (ev env x)) = some (kc k)) (hk : ok k)
    (h : RunO P W f N Q ops ol kk (put N env dst (wrapL cs (vc ((getM l k).getD z)))) H) : RunO P W f N Q ops (⟨dst, .lookup t m x false, ty, pos, aft, some (j, g)⟩ :: ol) kk env H := by
  obtain ⟨⟨kt, et, hu, KK, hkey, hz⟩, hinj⟩ := M
  obtain ⟨lk, hlk⟩ := hkey k hk
  refine runO_guarded rfl ht (d := vc ((getM l k).getD z)) (fun _ => opOk_lookup rfl hu KK hz hm hb (keysOk_ent hinj (fun x hx => hkey _ (hl.1 x hx)) hl.2) hx hlk ⟨?_, rfl⟩) h
  rw [getE_ent hinj]
  cases hg : getM l k <;> rfl
end

abbrev Kp := Ky × Int
def kcK (p : Kp) : Value := .agg #[.string (strL p.1), .int .i64 p.2]
def vcb (b : Bool) : D := .v (.bool b)
def vcU (s : BitVec 8) : D := .v (.int .u8 (s.toNat : Int))
def okPr (p : Kp) : Prop := okS p.1 ∧ 0 ≤ p.2 ∧ p.2 ≤ 8
theorem kcK_inj (a b : Kp) (h : kcK a = kcK b) : a = b := by
  unfold kcK strL at h
  simp only [Value.agg.injEq, Array.mk.injEq, List.cons.injEq, Value.int.injEq, Value.string.injEq, ByteArray.mk.injEq, true_and, and_true] at h
  exact Prod.ext (by simpa using h.1) h.2
theorem laidOutT10 : laidOutB Try.prog = true := by kernel_rfl
theorem pair_keyed : Maps.Keyed Try.prog 73 :=
  Maps.Keyed.of_law (deep_law_gate laidOutT10 (by decide +kernel) (by decide +kernel) (by kernel_rfl) (by rw [Try.underlying73]))
theorem pair_key (p : Kp) (h : okPr p) : ∃ l, keyOf Try.prog 73 (kcK p) = some l := by
  obtain ⟨a, b⟩ := p
  obtain ⟨h1, h2, h3⟩ := h
  unfold okS at h1
  simp only at h1 h2 h3
  have k1 : Try.prog.keyType 73 = true := by kernel_rfl
  have k2 : Try.prog.cellsOf 73 = 2 := by kernel_rfl
  have k3 : Try.prog.cellsOf 3 = 1 := by kernel_rfl
  have k3' : Try.prog.cellsOf 9 = 1 := by kernel_rfl
  have hpos : 1 ≤ Try.prog.types.size := by decide +kernel
  obtain ⟨n, hn⟩ : ∃ n, Try.prog.types.size = n + 1 := ⟨Try.prog.types.size - 1, by omega⟩
  have k4 : (kcK (a, b)).formed Try.prog 73 = true := by simp [kcK, Value.formed, Try.underlying73, k2]
  have m1 : IntKind.i64.min = -9223372036854775808 := rfl
  have m2 : IntKind.i64.max = 9223372036854775807 := rfl
  have hwf : (Lit.int .i64 b).wf = true := by simp only [Lit.wf, Bool.and_eq_true, decide_eq_true_eq, m1, m2]; omega
  have hsz : (strL a).size ≤ maxLen := by rw [strL_size]; simp [maxLen]; omega
  have k5 : Try.prog.keyLits (n + 1) 3 [.int .i64 b] = some [.int .i64 b] := by simp [Program.keyLits, Try.underlying3, hwf]
  have k5' : Try.prog.keyLits (n + 1) 9 [.string (strL a)] = some [.string a] := by
    have h2 : (strL a).data.toList = a := rfl
    simp only [Program.keyLits, Try.underlying9]
    simp [hsz, h2]
  have k6 : ∃ ls, Try.prog.keyLits (Try.prog.types.size + 1) 73 [.string (strL a), .int .i64 b] = some ls := by
    rw [hn]
    unfold Program.keyLits
    simp [Try.underlying73, k2, k3, k3', k5, k5']
  obtain ⟨ls, k6⟩ := k6
  refine ⟨.string (keyBytes ls), ?_⟩
  unfold keyOf
  simp only [Try.underlying73, k1, k4, Bool.and_self, if_true]
  show (Try.prog.keyLits (Try.prog.types.size + 1) 73 [.string (strL a), .int .i64 b]).map _ = _
  rw [k6]
  rfl
theorem mtDone : MT Try.prog 70 kcK vcb okPr false :=
  ⟨⟨73, 4, Try.underlying70, pair_keyed, pair_key, by kernel_rfl⟩, kcK_inj⟩
theorem mtMark : MT Try.prog 71 kcS vcU okS 0#8 :=
  ⟨⟨9, 5, Try.underlying71, Maps.string_keyed Try.underlying9, keyS _ Try.underlying9, by kernel_rfl⟩, kcS_inj⟩

/-- Was a thread gone into? -/
def Tr.dnd (t : Tr) (k : Ky) (y : Int) : Bool := match t.fnd k with | none => false | some x => hasE x.n.dn y
structure OnceI (t : Tr) (D : List (Kp × Bool)) (M : List (Ky × BitVec 8)) : Prop where
  dn : ∀ k y, (getM D (k, y)).getD false = t.dnd k y
  all : ∀ e ∈ D, e.2 = true
  cnt : t.cl = (D.length : Int)
  mrk : ∀ k x, t.fnd k = some x → ∀ y, hasE x.n.td y = true → hasE ((getM M k).getD 0#8) y = true ∧ (t.at k).2.2.may y = true
  dok : MOk okPr D
  mok : MOk okS M
theorem has_in {s : BitVec 8} {y : Int} (h : hasE s y = true) : 0 ≤ y ∧ y < 8 := by
  by_cases hy : 0 ≤ y ∧ y < 8
  · exact hy
  · rw [has_out s hy] at h; cases h
theorem fnd_upd' {t : Tr} {k : Ky} {x : Nt} (hx : t.fnd k = some x) (n : Nd) (k' : Ky) : (t.upd k n).fnd k' = if k' = k then some { x with n := n } else t.fnd k' := fnd_upd hx n k'
theorem once_made {t t' : Tr} {D : List (Kp × Bool)} {M : List (Ky × BitVec 8)} (h : OnceI t D M) {k : Ky} {s : BitVec 8} {o : Int} (hm : t.Made k s o t') : OnceI t' D M := by
  rcases hm with ⟨_, rfl⟩ | ⟨h0, b, rfl⟩
  · exact h
  · have hx := (mkE_ok h0).2.1
    have hf : ∀ k', (t.put k b ⟨o, s, 0#8, 0#8⟩).fnd k' = if k' = k then some ⟨k, b, ⟨o, s, 0#8, 0#8⟩⟩ else t.fnd k' := fun k' => fnd_put hx b _ k'
    refine ⟨fun k' y => ?_, h.all, h.cnt, fun k' x hx' y hy => ?_, h.dok, h.mok⟩
    · rw [h.dn k' y]
      unfold Tr.dnd
      rw [hf]
      by_cases e : k' = k
      · subst e
        rw [if_pos rfl, hx]
        simp [has_0]
      · rw [if_neg e]
    · rw [hf] at hx'
      by_cases e : k' = k
      · rw [if_pos e] at hx'
        cases hx'
        simp [has_0] at hy
      · rw [if_neg e] at hx'
        exact h.mrk k' x hx' y hy
theorem once_mark {t : Tr} {D : List (Kp × Bool)} {M : List (Ky × BitVec 8)} (h : OnceI t D M) {k : Ky} (hk : okS k) {s : BitVec 8} (he : t.mrE k = 0) : OnceI (t.mark k s) D (putM M k ((getM M k).getD 0#8 ||| s)) := by
  unfold Tr.mrE at he
  cases hx : t.fnd k with
  | none => rw [hx] at he; simp at he
  | some x =>
    have hm : t.mark k s = t.upd k (t.mkd k x.n s) := by unfold Tr.mark; rw [hx]
    rw [hm]
    refine ⟨fun k' y => ?_, h.all, h.cnt, fun k' x' hx' y hy => ?_, h.dok, h.mok.put hk _⟩
    · rw [h.dn k' y]
      unfold Tr.dnd
      rw [fnd_upd' hx]
      by_cases e : k' = k
      · subst e; rw [if_pos rfl, hx]; rfl
      · rw [if_neg e]
    · rw [fnd_upd' hx] at hx'
      rw [getM_put]
      by_cases e : k' = k
      · subst e
        rw [if_pos rfl] at hx' ⊢
        cases hx'
        replace hy : hasE (x.n.td ||| (s &&& ofB (t.at k').2.2.all)) y = true := hy
        rw [has_or, has_and] at hy
        show hasE ((getM M k').getD 0#8 ||| s) y = true ∧ (t.at k').2.2.may y = true
        rw [has_or]
        cases htd : hasE x.n.td y with
        | true =>
          have := h.mrk k' x hx y htd
          exact ⟨by rw [this.1]; rfl, this.2⟩
        | false =>
          rw [htd, Bool.false_or, Bool.and_eq_true] at hy
          refine ⟨by rw [hy.1]; simp, ?_⟩
          obtain ⟨j, hj, rfl⟩ := nat_of (has_in hy.2)
          rw [has_of _ hj, decide_eq_true_eq] at hy
          have := hy.2
          unfold St.all at this
          obtain ⟨i, hi, he2⟩ := List.mem_map.1 this
          rw [← he2]
          exact (List.mem_filter.1 hi).2
      · rw [if_neg e] at hx'
        rw [if_neg (fun e2 => e e2.symm)]
        exact h.mrk k' x' hx' y hy
theorem once_mark6 {t : Tr} {k : Ky} {s : BitVec 8} (he : t.mrE k ≠ 0) : t.mark k s = t := by
  unfold Tr.mrE at he
  unfold Tr.mark
  cases hx : t.fnd k with
  | none => rfl
  | some x => rw [hx] at he; simp at he
theorem ch_has {s : St} {sa ea : BitVec 8} {t y : Int} (h : hasE (chE s sa ea t) y = true) : hasE sa y = true ∨ hasE ea y = true := by
  obtain ⟨j, hj, rfl⟩ := nat_of (has_in h)
  unfold chE at h
  split at h
  · unfold chK at h
    rw [has_fold _ _ _ hj, has_0, Bool.false_or, Bool.and_eq_true, decide_eq_true_eq, mem_allB, has_not, has_or, Bool.and_eq_true, Bool.or_eq_true] at h
    exact h.1.1
  · rw [has_0] at h; cases h
theorem clT_has {n : Nd} (h : n.left ≠ 0#8) (d : Int) : hasE n.left (clT n d) = true := by
  have hl8 := allB_len n.left 8
  have hpos := List.length_pos_iff.2 (fun e => h ((allB_nil _).1 e))
  obtain ⟨j, hj, ej, _⟩ := fmod_ex d (n := (allB n.left 8).length) (by omega) (by omega)
  have hct : clT n d = (allB n.left 8).getD j default := by unfold clT; rw [ej]; simp
  rw [hct, ← mem_allB]
  simp [List.getD, hj]
/-- What a claim that went well tells. -/
structure ClF (t : Tr) (k : Ky) (d : Int) (D : List (Kp × Bool)) (M : List (Ky × BitVec 8)) : Prop where
  at0 : ((t.clm k d).at k).1 = 0
  atE : (t.clm k d).at k = t.at k
  done : (getM D (k, (t.clR k d).1)).getD false = false
  may : (t.at k).2.2.may (t.clR k d).1 = true
  sl : hasE ((t.clm k d).sl k) (t.clR k d).1 = false
  mrk : hasE ((getM M k).getD 0#8) (t.clR k d).1 = true
  okp : okPr (k, (t.clR k d).1)
  ch : ∀ y, hasE (t.clR k d).2.1 y = true → hasE ((t.clm k d).sl k) y = false → (getM D (k, y)).getD false = true
  nxt : OnceI (t.clm k d) (putM D (k, (t.clR k d).1) true) M
theorem clm_6 {t : Tr} {k : Ky} {d : Int} (h : (t.clR k d).2.2 ≠ 0) : t.clm k d = t := by
  unfold Tr.clR at h
  unfold Tr.clm
  cases hx : t.fnd k with
  | none => rfl
  | some x =>
    rw [hx] at h
    simp only at h ⊢
    by_cases he : x.n.left = 0#8
    · rw [if_pos he]
    · rw [if_neg he] at h; exact absurd rfl h
theorem once_claim {t : Tr} {D : List (Kp × Bool)} {M : List (Ky × BitVec 8)} {c : Int} (h : OnceI t D M) (ho : OkN t c) {k : Ky} (hk : okS k) {d : Int} (he : (t.clR k d).2.2 = 0) : ClF t k d D M := by
  cases hx : t.fnd k with
  | none => unfold Tr.clR at he; rw [hx] at he; simp at he
  | some x =>
    by_cases hl : x.n.left = 0#8
    · unfold Tr.clR at he; rw [hx] at he; simp only at he; rw [if_pos hl] at he; simp at he
    · have hR : t.clR k d = (clT x.n d, chE (t.at k).2.2 x.n.sl x.n.dn (clT x.n d), 0) := by unfold Tr.clR; rw [hx]; simp only; rw [if_neg hl]
      have hM : t.clm k d = t.cla k x.n d := by unfold Tr.clm; rw [hx]; simp only; rw [if_neg hl]
      have hth := clT_has hl d
      have hth' := hth
      unfold Nd.left at hth'
      rw [has_not, has_not, Bool.and_eq_true, Bool.and_eq_true, Bool.not_eq_true', Bool.not_eq_true'] at hth'
      obtain ⟨⟨h1, h2⟩, h3⟩ := hth'
      have hf : ∀ k', (t.cla k x.n d).fnd k' = if k' = k then some { x with n := x.n.cl d } else t.fnd k' := fun k' => fnd_upd' hx (x.n.cl d) k'
      have hsl : (t.cla k x.n d).sl k = x.n.sl := by unfold Tr.sl; rw [hf, if_pos rfl]; rfl
      have hrng := has_in hth
      have hdn : ∀ y, t.dnd k y = hasE x.n.dn y := fun y => by unfold Tr.dnd; rw [hx]
      have hD : (getM D (k, clT x.n d)).getD false = false := by rw [h.dn, hdn]; exact h2
      have hN : getM D (k, clT x.n d) = none := by
        cases hg : getM D (k, clT x.n d) with
        | none => rfl
        | some v =>
          have := h.all _ (getM_some hg)
          simp only at this
          rw [hg, this] at hD
          cases hD
      refine ⟨?_, ?_, ?_, ?_, ?_, ?_, ?_, ?_, ?_⟩
      · rw [hM]; exact ho.fnd hx
      · rw [hM]; rfl
      · rw [hR]; exact hD
      · rw [hR]; exact (h.mrk k x hx _ h1).2
      · rw [hR, hM, hsl]; exact h3
      · rw [hR]; exact (h.mrk k x hx _ h1).1
      · rw [hR]; exact ⟨hk, hrng.1, by show clT x.n d ≤ 8; omega⟩
      · intro y hy hs
        rw [hR] at hy
        rw [hM, hsl] at hs
        rcases ch_has hy with hc | hc
        · rw [hc] at hs; cases hs
        · rw [h.dn, hdn]; exact hc
      · rw [hR, hM]
        refine ⟨fun k' y => ?_, fun e hm => ?_, ?_, fun k' x' hx' y hy => ?_, h.dok.put ⟨hk, hrng.1, by show clT x.n d ≤ 8; omega⟩ _, h.mok⟩
        · rw [getM_put]
          unfold Tr.dnd
          rw [hf]
          by_cases e : k' = k
          · subst e
            rw [if_pos rfl]
            show _ = hasE (x.n.dn ||| bitE (clT x.n d)) y
            rw [has_or]
            by_cases e2 : y = clT x.n d
            · subst e2
              rw [if_pos rfl]
              obtain ⟨j, hj, ej⟩ := nat_of hrng
              rw [ej, has_one _ hj]
              simp
            · rw [if_neg (fun e3 => e2 (congrArg Prod.snd e3).symm), h.dn, hdn]
              have : hasE (bitE (clT x.n d)) y = false := by
                by_cases hy : 0 ≤ y ∧ y < 8
                · obtain ⟨j, hj, rfl⟩ := nat_of hy
                  rw [has_one _ hj]
                  simpa using fun e3 : clT x.n d = (j : Int) => e2 e3.symm
                · exact has_out _ hy
              rw [this, Bool.or_false]
          · rw [if_neg e, if_neg (fun e3 => e (congrArg Prod.fst e3).symm), h.dn]
            rfl
        · rw [putM_new hN] at hm
          rcases List.mem_append.1 hm with hm | hm
          · exact h.all e hm
          · rw [List.mem_singleton.1 hm]
        · show t.cl + 1 = _
          rw [putM_new hN, List.length_append, h.cnt]
          simp
        · rw [hf] at hx'
          by_cases e : k' = k
          · subst e
            rw [if_pos rfl] at hx'
            cases hx'
            exact h.mrk k' x hx y hy
          · rw [if_neg e] at hx'
            exact h.mrk k' x' hx' y hy
end Go.Proofs.Ytcfeklnmampndaa
