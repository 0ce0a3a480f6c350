/-
  Plain: all beginnings of a node's prefix have nodes.
-/
import Derived.Test.YtcfeklnmampndaaTrK
set_option linter.unusedSimpArgs false
set_option linter.unusedVariables false
namespace Go.Proofs.Ytcfeklnmampndaa
open Go Go.Sn Go.RowKit

theorem rpl_full : ∀ (row : List Int) {s : St}, (rpl s row).1 = 0 → (rpl s row).2.1.length = row.length
  | [], s, _ => rfl
  | t :: row, s, h => by
    rw [rpl] at h ⊢
    by_cases e : s.err t = 0
    · rw [if_pos e] at h ⊢
      simpa using rpl_full row (s := s.stS t) h
    · rw [if_neg e] at h; exact absurd h e
theorem rpl_low : ∀ (row : List Int) {s : St}, OkSt s → (rpl s row).1 = 0 → ∀ t ∈ row, t < 4
  | [], s, _, _, t, ht => by cases ht
  | a :: row, s, hs, h, t, ht => by
    rw [rpl] at h
    by_cases e : s.err a = 0
    · rw [if_pos e] at h
      rcases List.mem_cons.1 ht with rfl | ht
      · obtain ⟨_, _, his⟩ := err_0 e
        obtain ⟨k, rfl, hk⟩ := is_nat his
        have := (ok_len hs).1
        omega
      · exact rpl_low row (ok_stS hs a) h t ht
    · rw [if_neg e] at h; exact absurd h e
theorem at_low {t : Tr} (ho : OkT t) {k : Ky} (h : (t.at k).1 = 0) {i : Nat} (hi : i < k.length) : (k.getD i 0).toNat < 4 := by
  have := rpl_low (rowK k) (okN_ok ho.ok) h ((k.getD i 0).toNat : Int) (by
    unfold rowK
    refine List.mem_map.2 ⟨k.getD i 0, ?_, rfl⟩
    simp [List.getD, hi])
  omega
theorem at_full {t : Tr} {k : Ky} (h : (t.at k).1 = 0) : (t.at k).2.1.length = k.length := by
  have := rpl_full (rowK k) h
  rw [rowK_len] at this
  exact this

/-- All beginnings have nodes, each gone into by the next thread. -/
def Shut (t : Tr) : Prop := ∀ k x, t.fnd k = some x → ∀ i, i < k.length → ∃ y, t.fnd (k.take i) = some y ∧ hasE y.n.dn ((k.getD i 0).toNat : Int) = true
theorem shut_new {p : Pg} {fuel : Int} : Shut (Tr.new p fuel) := fun k x hx => by cases hx
theorem shut_upd {t : Tr} (h : Shut t) {k : Ky} {x : Nt} (hx : t.fnd k = some x) (n : Nd) (hd : ∀ y, hasE x.n.dn y = true → hasE n.dn y = true) : Shut (t.upd k n) := fun k' x' hx' i hi => by
  have hf := fnd_upd' hx n
  have hold : ∃ z, t.fnd k' = some z := by
    rw [hf] at hx'
    by_cases e : k' = k
    · exact ⟨x, by rw [e]; exact hx⟩
    · rw [if_neg e] at hx'; exact ⟨x', hx'⟩
  obtain ⟨z, hz⟩ := hold
  obtain ⟨y, hy, hh⟩ := h k' z hz i hi
  rw [hf]
  by_cases e : k'.take i = k
  · rw [if_pos e]
    rw [e, hx] at hy
    cases hy
    exact ⟨_, rfl, hd _ hh⟩
  · rw [if_neg e]
    exact ⟨y, hy, hh⟩
theorem shut_mark {t : Tr} (h : Shut t) (k : Ky) (s : BitVec 8) : Shut (t.mark k s) := by
  unfold Tr.mark
  cases hx : t.fnd k with
  | none => exact h
  | some x => exact shut_upd h hx _ fun y hy => hy
theorem shut_clm {t : Tr} (h : Shut t) (k : Ky) (d : Int) : Shut (t.clm k d) := by
  unfold Tr.clm
  cases hx : t.fnd k with
  | none => exact h
  | some x =>
    simp only
    by_cases he : x.n.left = 0#8
    · rw [if_pos he]; exact h
    · rw [if_neg he]
      exact shut_upd h hx (x.n.cl d) fun y hy => by
        show hasE (x.n.dn ||| bitE (clT x.n d)) y = true
        rw [has_or, hy]; rfl
theorem shut_made {t t' : Tr} (h : Shut t) {k : Ky} {s : BitVec 8} {o : Int} (hm : t.Made k s o t') : Shut t' := by
  rcases hm with ⟨_, rfl⟩ | ⟨h0, b, rfl⟩
  · exact h
  · obtain ⟨_, hx, hu⟩ := mkE_ok h0
    have hf : ∀ k', (t.put k b ⟨o, s, 0#8, 0#8⟩).fnd k' = if k' = k then some ⟨k, b, ⟨o, s, 0#8, 0#8⟩⟩ else t.fnd k' := fun k' => fnd_put hx b _ k'
    have old : ∀ k' y, t.fnd k' = some y → (t.put k b ⟨o, s, 0#8, 0#8⟩).fnd k' = some y := fun k' y hy => by
      rw [hf, if_neg (fun e => by rw [e, hx] at hy; cases hy)]
      exact hy
    intro k' x' hx' i hi
    by_cases e : k' = k
    · subst e
      unfold Tr.up at hu
      rw [Bool.or_eq_true, decide_eq_true_eq] at hu
      rcases hu with hu | hu
      · rw [hu] at hi; simp at hi
      cases hy : t.fnd (k'.take (k'.length - 1)) with
      | none => rw [hy] at hu; cases hu
      | some y =>
        rw [hy] at hu
        replace hu : hasE y.n.dn ((k'.getD (k'.length - 1) 0).toNat : Int) = true := hu
        by_cases hl : i = k'.length - 1
        · subst hl
          exact ⟨y, old _ _ hy, hu⟩
        · have hi2 : i < (k'.take (k'.length - 1)).length := by rw [List.length_take]; omega
          obtain ⟨z, hz, hh⟩ := h _ y hy i hi2
          rw [List.take_take, Nat.min_eq_left (by omega)] at hz
          refine ⟨z, old _ _ hz, ?_⟩
          have : (k'.take (k'.length - 1)).getD i 0 = k'.getD i 0 := by
            simp only [List.getD_eq_getElem?_getD]
            rw [List.getElem?_take_of_lt (by omega)]
          rw [this] at hh
          exact hh
    · rw [hf, if_neg e] at hx'
      obtain ⟨y, hy, hh⟩ := h k' x' hx' i hi
      exact ⟨y, old _ _ hy, hh⟩

/-- The nodes' prefixes, as they were made. -/
def Tr.keys (t : Tr) : List Ky := t.ns.map (·.k)
theorem keys_upd (t : Tr) (k : Ky) (n : Nd) : (t.upd k n).keys = t.keys := updN_k t.ns k n
theorem keys_mark (t : Tr) (k : Ky) (s : BitVec 8) : (t.mark k s).keys = t.keys := by
  unfold Tr.mark
  split
  · rfl
  · exact keys_upd _ _ _
theorem keys_clm (t : Tr) (k : Ky) (d : Int) : (t.clm k d).keys = t.keys := by
  unfold Tr.clm
  split
  · rfl
  · split
    · rfl
    · exact keys_upd _ _ _
theorem keys_made {t t' : Tr} {k : Ky} {s : BitVec 8} {o : Int} (hm : t.Made k s o t') : t'.keys = if t.mkE k = 0 then t.keys ++ [k] else t.keys := by
  rcases hm with ⟨h, rfl⟩ | ⟨h, b, rfl⟩
  · rw [if_neg h]
  · rw [if_pos h]
    simp [Tr.keys, Tr.put]
theorem keys_fnd {t : Tr} {k : Ky} (h : k ∈ t.keys) : ∃ x, t.fnd k = some x := by
  obtain ⟨y, hy, rfl⟩ := List.mem_map.1 h
  cases hx : t.fnd y.k with
  | some x => exact ⟨x, rfl⟩
  | none =>
    have := List.find?_eq_none.1 hx y hy
    simp at this
/-- A node's making again. -/
theorem again {t : Tr} {c : Int} (ho : OkN t c) {k : Ky} {x : Nt} (hx : t.fnd k = some x) : t.mkE k = 7 := by
  unfold Tr.mkE
  rw [if_neg (fun e => e (ho.fnd hx)), hx]
  rfl
theorem lf_dn {t : Tr} {k : Ky} {y : Nt} (hy : t.fnd k = some y) {z : Int} (hd : hasE y.n.dn z = true) : z ∉ t.lf k := by
  unfold Tr.lf
  rw [hy]
  show z ∉ allB y.n.left 8
  rw [mem_allB]
  unfold Nd.left
  rw [has_not, has_not, hd]
  simp
theorem lf_len (t : Tr) (k : Ky) : (t.lf k).length ≤ 8 := by
  unfold Tr.lf
  split
  · simp
  · exact allB_len _ 8

/-! ### a gathered list beside a tree -/
theorem coll_tree {H2 Hc K : Heap} {e sz : Nat} {xs : List (List D)} {d : D} {l : TLo} {t : Tr} (hc : Coll H2 e sz xs d Hc) (hA : AtF Hc K l t) : ∃ H0, Coll H0 e sz xs d K ∧ AtF H2 H0 l t := by
  cases hc with
  | none h => exact ⟨K, .none h, hA⟩
  | some b cap hb =>
    have hK : K b = some (.grow e xs.length cap sz) := hA.sub _ _ (Heap.set_same _ _ _)
    have hself : (K.del b).set b (.grow e xs.length cap sz) = K := by
      funext q
      rw [Heap.set_at, Heap.del_at]
      split
      · rename_i e2; subst e2; exact hK.symm
      · rfl
    have hdel : (K.del b) b = Option.none := by rw [Heap.del_at, if_pos rfl]
    have hn : ∀ q, (H2.set b (.grow e xs.length cap sz)) q = Option.none → q ≠ b ∧ H2 q = Option.none := fun q hq => by
      have e2 : q ≠ b := fun e2 => by rw [e2, Heap.set_same] at hq; cases hq
      rw [Heap.set_other _ _ e2] at hq
      exact ⟨e2, hq⟩
    have g1 := hn _ hA.fb
    have g2 := hn _ hA.fm
    have g3 := fun x hx => hn _ (hA.fn x hx)
    refine ⟨K.del b, ?_, ⟨⟨?_, ?_, fun x hx => ?_, hA.ht.nd, hA.ht.kd, hA.ht.ok⟩, fun q r hq => ?_, g1.2, g2.2, fun x hx => (g3 x hx).2⟩⟩
    · have := Coll.some (H0 := K.del b) (e := e) (sz := sz) (xs := xs) b cap hdel
      rwa [hself] at this
    · rw [Heap.del_at, if_neg g1.1]; exact hA.ht.hb
    · rw [Heap.del_at, if_neg g2.1]; exact hA.ht.hm
    · rw [Heap.del_at, if_neg (g3 x hx).1]; exact hA.ht.hn x hx
    · have hqb : q ≠ b := fun e2 => by rw [e2, hb] at hq; cases hq
      rw [Heap.del_at, if_neg hqb]
      exact hA.sub _ _ (by rw [Heap.set_other _ _ hqb]; exact hq)
theorem tree_coll {H2 H0 K : Heap} {e sz : Nat} {xs : List (List D)} {d : D} {l : TLo} {t : Tr} (hc : Coll H0 e sz xs d K) (hA : AtF H2 H0 l t) : ∃ Hc, Coll H2 e sz xs d Hc ∧ AtF Hc K l t := by
  cases hc with
  | none h => exact ⟨H2, .none h, hA⟩
  | some b cap hb => exact ⟨_, .some b cap (hA.none' hb), hA.fresh _ hb⟩
end Go.Proofs.Ytcfeklnmampndaa
