/-
  A slice of ours against nil.
-/
import Derived.Test.YtobdagjdhgjplaaGrow
namespace Go.Sn
open Go Go.RowKit
set_option linter.unusedVariables false
set_option linter.unusedSimpArgs false
section
variable {P : Program} {W : World} {f : FuncId} {N : Nat} {Q : D → Heap → Prop} {ws : Cl} {ops : Array Oper} {l : List Oper} {o : Oper} {k : List Item} {env : Env} {H : Heap} {G : IG} {w : World}
theorem opOk_sliceNilV {ρ : Operand → D} {K : D → Heap → Prop} {t e yt : TypeId} {x : Operand} {ad : Addr} {m c : Nat} (ho : o.op = .binOp .eql t x (.const (.slice none 0 0)) yt) (hu : P.underlying t = some (.slice e)) (hx : ρ x = .v (.slice (some ad) m c))
    (hK : K (.v (.bool false)) H) : OpOk P W o ρ H K := by
  intro G a w next Qx hI hρ hnext
  have hxr := hρ x (by simp [ho, Op.operands])
  rw [hx] at hxr
  have hv := hxr.inv_v
  refine wp_value (w' := w) (v := .bool false) ?_ (hnext _ _ _ _ _ (.refl G) hI (.v _) hK)
  simp only [execOp, ho, hv]
  refine execOp_v' ?_
  show (Sem.bind (eqGuard .eql t x (.const (.slice none 0 0)) (.slice (some ad) m c) (.slice none 0 0)) fun _ => binOp .eql t (.slice (some ad) m c) (.slice none 0 0)).run P w = _
  rw [Sem.run_bind', run_eqGuard_v .eql t x _ (by simp) (by simp)]
  exact run_eql_of (run_equalIn_sl 9999 hu (some ad) m c) rfl
section lits
variable {dst : Option Tmp} {ty : TypeId} {pos : String} {aft : Array Edge}
theorem runO_sliceNilV {t e yt : TypeId} {x : Operand} {ad : Addr} {m c : Nat} (hu : P.underlying t = some (.slice e)) (hx : ev env x = .v (.slice (some ad) m c))
    (h : RunO P W f N Q ops l k (put N env dst (.v (.bool false))) H) :
    RunO P W f N Q ops (⟨dst, .binOp .eql t x (.const (.slice none 0 0)) yt, ty, pos, aft, none⟩ :: l) k env H := runO_op rfl (opOk_sliceNilV rfl hu hx h)
end lits
end
theorem collR_set {H0 H : Heap} {e sz p : Nat} {xs : List (List D)} {d : D} {r r0 : Res} (h : CollR H0 e sz xs d H) (hp : H0 p = some r0) : CollR (H0.set p r) e sz xs d (H.set p r) := by
  cases h with
  | none h => exact .none h
  | some b cap rest hb hc hr =>
    have hne : p ≠ b := fun e1 => by subst e1; rw [hb] at hp; cases hp
    have hc' : (H0.set b (.cells (xs.flatten ++ rest) e)).set p r = (H0.set p r).set b (.cells (xs.flatten ++ rest) e) := Heap.set_comm _ _ _ (fun e1 => hne e1.symm)
    rw [hc']
    exact .some b cap rest (by rw [Heap.set_other _ _ (fun e1 => hne e1.symm)]; exact hb) hc hr
theorem CollR.sub {H0 H : Heap} {e sz : Nat} {xs : List (List D)} {d : D} (h : CollR H0 e sz xs d H) : H0.sub H := by
  cases h with
  | none h => exact Heap.sub_refl _
  | some b cap rest hb hc hr => exact Heap.sub_set (Heap.sub_refl _) hb
theorem collR_stor {H0 H : Heap} {e sz : Nat} {xs : List (List D)} {d : D} (h : CollR H0 e sz xs d H) : d.stor = true ∧ d.cells = [d] ∧ d.one = true := by
  cases h with
  | none h => exact ⟨rfl, rfl, rfl⟩
  | some b cap rest hb hc hr => exact ⟨rfl, rfl, rfl⟩
section
variable {P : Program} {W : World} {f : FuncId} {N : Nat} {Q : D → Heap → Prop} {ops : Array Oper} {l : List Oper} {o : Oper} {k : List Item} {env : Env} {H : Heap}
/-- Is it there, and what is it? -/
theorem opOk_lookup2 {ρ : Operand → D} {K : D → Heap → Prop} {t kt et : TypeId} {m x : Operand} {b : Nat} {es : List (Value × D)} {kv : Value} {lk : Lit} {z : D} (ho : o.op = .lookup t m x true) (hu : P.underlying t = some (.map kt et))
    (KK : Maps.Keyed P kt) (hz : zeroV P et = some z) (hm : ρ m = .v (.map (some b))) (hb : H b = some (.map es)) (hes : KeysOk P kt es) (hx : litV (ρ x) = some kv) (hl : keyOf P kt kv = some lk)
    (hK : K (.tup [(getE es kv).getD z, .v (.bool (getE es kv).isSome)]) H) : OpOk P W o ρ H K := by
  intro G a w next Qx hI hρ hnext
  have hmv : a.eval m = .map (some b) := by have := hρ m (by simp [ho, Op.operands]); rw [hm] at this; exact this.inv_v
  have hxv : a.eval x = kv := (hρ x (by simp [ho, Op.operands])).litV hx
  obtain ⟨_, ms, ck, hms, hlen, hr, hck, hborn⟩ := hI.res b _ hb
  have hget : (getObj b).run P w = .ok (.map ms.toArray ck) w := MapKept.run_getObj_map hms
  rcases find_own (w := w) KK hes hlen hr hl with ⟨h1, h2⟩ | ⟨j, me, d, h1, h2, h3, h4, h5, h6⟩
  · obtain ⟨zv, hzv, hzr⟩ := run_zeroV (P := P) (G := G) (w := w) hz
    refine wp_value (w' := w) (v := .tuple #[zv, .bool false]) ?_ (hnext _ _ _ _ _ (.refl G) hI (Rep.mkTup (cs := [zv, .bool false]) (Reps.cons hzr (Reps.cons (.v _) (Reps.nil _)))) (by rw [h2] at hK; exact hK))
    simp only [execOp, ho, hmv, hxv]
    refine execOp_v' ?_
    simp only [Instr.lookup, Sem.run_bind, run_underlying hu, Result.andThen_ok, hget, Sem.run_pure, KK.check w _ hl, h1, hzv]
    rfl
  · refine wp_value (w' := w) (v := .tuple #[me.val, .bool true]) ?_ (hnext _ _ _ _ _ (.refl G) hI (Rep.mkTup (cs := [me.val, .bool true]) (Reps.cons h5 (Reps.cons (.v _) (Reps.nil _)))) (by rw [h6] at hK; exact hK))
    simp only [execOp, ho, hmv, hxv]
    refine execOp_v' ?_
    simp only [Instr.lookup, Sem.run_bind, run_underlying hu, Result.andThen_ok, hget, Sem.run_pure, KK.check w _ hl, h1]
    rfl
section lits
variable {dst : Option Tmp} {ty : TypeId} {pos : String} {aft : Array Edge}
theorem runO_lookup2M {K V : Type} [DecidableEq K] {kc : K → Value} {vc : V → D} {ok : K → Prop} {z : V} {t : TypeId} {b : Nat} {ml : List (K × V)} {kk : K} (M : MT P t kc vc ok z) {m x : Operand} (hm : ev env m = .v (.map (some b))) (hb : H b = some (.map (entC kc vc ml))) (hl : MOk ok ml) (hx : litV (ev env x) = some (kc kk)) (hk : ok kk)
    (h : RunO P W f N Q ops l k (put N env dst (.tup [vc ((getM ml kk).getD z), .v (.bool (getM ml kk).isSome)])) H) : RunO P W f N Q ops (⟨dst, .lookup t m x true, ty, pos, aft, none⟩ :: l) k env H := by
  obtain ⟨⟨kt, et, hu, KK, hkey, hz⟩, hinj⟩ := M
  obtain ⟨lk, hlk⟩ := hkey kk hk
  refine runO_op rfl (opOk_lookup2 rfl hu KK hz hm hb (keysOk_ent hinj (fun x hx => hkey _ (hl.1 x hx)) hl.2) hx hlk ?_)
  rw [getE_ent hinj]
  cases hg : getM ml kk <;> rw [hg] at h <;> exact h
end lits
end
end Go.Sn
