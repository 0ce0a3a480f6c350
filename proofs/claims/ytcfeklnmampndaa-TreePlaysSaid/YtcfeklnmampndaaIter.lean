/-
  A program logic over the kit's `Calls`. Walks over strings.
-/
import Derived.Test.YtcfeklnmampndaaLibB
import Derived.Laws.RangeString
namespace Go.Sn
open Go Go.RowKit
set_option linter.unusedVariables false
set_option linter.unusedSimpArgs false

theorem World.cell?_iter {w : World} {b p : Nat} {s : ByteArray} {pos : Nat} (h : w.heap[b]? = some (.stringIter s pos)) : w.cell? ⟨b, p, none⟩ = none := by
  simp [World.cell?, h]
theorem Inv.setIter {W : World} {G : IG} {H : Heap} {w : World} (h : Inv W G H w) {b : Nat} {s : ByteArray} {pos : Nat} (hb : H b = some (.iter s pos)) (pos' : Nat) :
    Inv W G (H.set b (.iter s pos')) { w with heap := w.heap.setIfInBounds b (.stringIter s pos') } := by
  obtain ⟨hWb, hms⟩ := h.res b _ hb
  replace hms : w.heap[b]? = some (.stringIter s pos) := hms
  have hlt : b < w.heap.size := (Array.getElem?_eq_some_iff.1 hms).1
  have hother : ∀ k, k ≠ b → (w.heap.setIfInBounds b (.stringIter s pos'))[k]? = w.heap[k]? := fun k hk => by
    rw [Array.getElem?_setIfInBounds]
    rw [if_neg (fun e => hk e.symm)]
  have hset : (w.heap.setIfInBounds b (.stringIter s pos'))[b]? = some (.stringIter s pos') := by
    rw [Array.getElem?_setIfInBounds]
    simp [hlt]
  refine ⟨h.below.trans ⟨rfl, rfl, rfl, by simp, fun k hk => hother k (by omega)⟩, fun p o x hx => ⟨?_, (h.imm p o x hx).2⟩, fun k r hk => ?_⟩
  · have hc := (h.imm p o x hx).1
    have hpb : p ≠ b := fun e => by subst e; rw [World.cell?_iter hms] at hc; cases hc
    rw [← hc]
    simp only [World.cell?, hother p hpb]
  · rw [Heap.set_at] at hk
    split at hk
    · rename_i e; subst e; cases hk; exact ⟨hWb, hset⟩
    · rename_i hkb
      exact ⟨(h.res k r hk).1, (h.res k r hk).2.same (hother k hkb)⟩

section
variable {P : Program} {W : World} {f : FuncId} {N : Nat} {Q : D → Heap → Prop} {ops : Array Oper} {l : List Oper} {o : Oper} {k : List Item} {env : Env} {H : Heap}
variable {dst : Option Tmp} {ty : TypeId} {pos : String} {aft : Array Edge}

theorem opOk_range {ρ : Operand → D} {K : D → Heap → Prop} {t : TypeId} {x : Operand} {s : ByteArray} (ho : o.op = .range t x) (hu : P.underlying t = some .string) (hx : ρ x = .v (.string s))
    (hK : ∀ b, H b = none → K (.v (.pointer (some ⟨b, 0, none⟩))) (H.set b (.iter s 0))) : OpOk P W o ρ H K := by
  intro G a w next Qx hI hρ hnext
  have hxv : a.eval x = .string s := by have := hρ x (by simp [ho, Op.operands]); rw [hx] at this; exact this.inv_v
  refine wp_value (w' := w.alloc (.stringIter s 0)) (v := .pointer (some ⟨w.heap.size, 0, none⟩)) ?_ (hnext _ _ _ _ _ (.refl G) ((hI.alloc _).add (b := w.heap.size) (r := .iter s 0) hI.below.size (World.iter_heap w s 0)) (.v _) (hK _ (hI.fresh (Nat.le_refl _))))
  simp only [execOp, ho, hxv]
  exact execOp_v' (run_range_string w t s hu)
theorem run_next_at {w : World} {b : Nat} {s : ByteArray} {q : Nat} (ty : TypeId) (hb : w.heap[b]? = some (.stringIter s q)) (h : q < s.size) (ha : (s[q]'h).toNat < 128) :
    (Instr.next (.pointer (some ⟨b, 0, none⟩)) true ty).run P w = .ok (.tuple #[.bool true, .int .i64 q, .int .i32 (s[q]'h).toNat]) { w with heap := w.heap.setIfInBounds b (.stringIter s (q + 1)) } := by
  simp only [Instr.next, getObj, setObj, Sem.run_bind, Sem.run, hb, Result.andThen, h, if_true, decode_ascii s q h ha]
  simp [goInt, Sem.run, hb]
theorem run_next_no {w : World} {b : Nat} {s : ByteArray} {q : Nat} (ty : TypeId) (hb : w.heap[b]? = some (.stringIter s q)) (h : ¬ q < s.size) :
    (Instr.next (.pointer (some ⟨b, 0, none⟩)) true ty).run P w = .ok (.tuple #[.bool false]) w := by
  simp [Instr.next, getObj, Sem.run, hb, h]
theorem opOk_next {ρ : Operand → D} {K : D → Heap → Prop} {x : Operand} {b q : Nat} {s : ByteArray} (ho : o.op = .next x true) (hx : ρ x = .v (.pointer (some ⟨b, 0, none⟩))) (hb : H b = some (.iter s q)) (h : q < s.size) (ha : (s[q]'h).toNat < 128)
    (hK : K (.tup [.v (.bool true), .v (.int .i64 q), .v (.int .i32 (s[q]'h).toNat)]) (H.set b (.iter s (q + 1)))) : OpOk P W o ρ H K := by
  intro G a w next Qx hI hρ hnext
  have hxv : a.eval x = .pointer (some ⟨b, 0, none⟩) := by have := hρ x (by simp [ho, Op.operands]); rw [hx] at this; exact this.inv_v
  have hms : w.heap[b]? = some (.stringIter s q) := (hI.res b _ hb).2
  refine wp_value (w' := { w with heap := w.heap.setIfInBounds b (.stringIter s (q + 1)) }) (v := .tuple #[.bool true, .int .i64 q, .int .i32 (s[q]'h).toNat]) ?_
    (hnext _ _ _ _ _ (.refl G) (hI.setIter hb _) (Rep.mkTup (cs := [.bool true, .int .i64 q, .int .i32 (s[q]'h).toNat]) (Reps.cons (.v _) (Reps.cons (.v _) (Reps.cons (.v _) (Reps.nil _))))) hK)
  simp only [execOp, ho, hxv]
  exact execOp_v' (run_next_at o.type hms h ha)
theorem opOk_nextEnd {ρ : Operand → D} {K : D → Heap → Prop} {x : Operand} {b q : Nat} {s : ByteArray} (ho : o.op = .next x true) (hx : ρ x = .v (.pointer (some ⟨b, 0, none⟩))) (hb : H b = some (.iter s q)) (h : ¬ q < s.size)
    (hK : K (.tup [.v (.bool false)]) H) : OpOk P W o ρ H K := by
  intro G a w next Qx hI hρ hnext
  have hxv : a.eval x = .pointer (some ⟨b, 0, none⟩) := by have := hρ x (by simp [ho, Op.operands]); rw [hx] at this; exact this.inv_v
  have hms : w.heap[b]? = some (.stringIter s q) := (hI.res b _ hb).2
  refine wp_value (w' := w) (v := .tuple #[.bool false]) ?_ (hnext _ _ _ _ _ (.refl G) hI (Rep.mkTup (cs := [.bool false]) (Reps.cons (.v _) (Reps.nil _))) hK)
  simp only [execOp, ho, hxv]
  exact execOp_v' (run_next_no o.type hms h)
theorem runO_range {t : TypeId} {x : Operand} {s : ByteArray} (hu : P.underlying t = some .string) (hx : ev env x = .v (.string s))
    (h : ∀ b, H b = none → RunO P W f N Q ops l k (put N env dst (.v (.pointer (some ⟨b, 0, none⟩)))) (H.set b (.iter s 0))) :
    RunO P W f N Q ops (⟨dst, .range t x, ty, pos, aft, none⟩ :: l) k env H := runO_op rfl (opOk_range rfl hu hx h)
theorem runO_next {x : Operand} {b q : Nat} {s : ByteArray} (hx : ev env x = .v (.pointer (some ⟨b, 0, none⟩))) (hb : H b = some (.iter s q)) (h : q < s.size) (ha : (s[q]'h).toNat < 128)
    (hr : RunO P W f N Q ops l k (put N env dst (.tup [.v (.bool true), .v (.int .i64 q), .v (.int .i32 (s[q]'h).toNat)])) (H.set b (.iter s (q + 1)))) :
    RunO P W f N Q ops (⟨dst, .next x true, ty, pos, aft, none⟩ :: l) k env H := runO_op rfl (opOk_next rfl hx hb h ha hr)
theorem runO_nextEnd {x : Operand} {b q : Nat} {s : ByteArray} (hx : ev env x = .v (.pointer (some ⟨b, 0, none⟩))) (hb : H b = some (.iter s q)) (h : ¬ q < s.size)
    (hr : RunO P W f N Q ops l k (put N env dst (.tup [.v (.bool false)])) H) :
    RunO P W f N Q ops (⟨dst, .next x true, ty, pos, aft, none⟩ :: l) k env H := runO_op rfl (opOk_nextEnd rfl hx hb h hr)
end
end Go.Sn
