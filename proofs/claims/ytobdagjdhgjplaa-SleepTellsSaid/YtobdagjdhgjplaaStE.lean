/-
  States of ours: where they lie, what is read of them.
-/
import Derived.Test.YtobdagjdhgjplaaStD
set_option linter.unusedSimpArgs false
set_option linter.unusedVariables false
namespace Go.Proofs.Ytobdagjdhgjplaa
open Go Go.Sn Go.RowKit

/-- Where a state lies: its block, the block of its threads, that one's room. -/
structure Lo where
  b : Nat
  c : Nat
  cap : Nat
  rest : List D
/-- The cells of a state at a place. -/
def stM (s : St) (l : Lo) : List D := stD s (.v (.slice (some ⟨l.c, 0, none⟩) s.ts.length l.cap))
def rowM (s : St) (l : Lo) : List D := (tdsC s.ts).flatten ++ l.rest
structure AtS (eT eS : Nat) (K : Heap) (l : Lo) (s : St) : Prop where
  hb : K l.b = some (.cells (stM s l) eS)
  hc : K l.c = some (.cells (rowM s l) eT)
  ne : l.b ≠ l.c
  cap : s.ts.length ≤ l.cap
/-- The heap with a state there. -/
def stH (eT eS : Nat) (K : Heap) (l : Lo) (s : St) : Heap := (K.set l.c (.cells (rowM s l) eT)).set l.b (.cells (stM s l) eS)

theorem AtS.view {eT eS : Nat} {K : Heap} {l : Lo} {s : St} (h : AtS eT eS K l s) : View K (.v (.pointer (some ⟨l.b, 0, none⟩))) (.ip (stC s)) := by
  refine View.ptr0 h.hb ?_
  unfold stM stC stD
  refine ViewL.cons (View.refl _) (ViewL.cons (View.refl _) (ViewL.cons (View.refl _) (ViewL.cons ?_ (ViewL.refl _))))
  exact View.row (xs := tdsC s.ts) (rest := l.rest) h.hc (by rw [tdsC_length]) h.cap (tdsC_all s.ts) (ViewL.refl _)
theorem stH_at {eT eS : Nat} {K : Heap} {l : Lo} {s : St} (hne : l.b ≠ l.c) (hcap : s.ts.length ≤ l.cap) : AtS eT eS (stH eT eS K l s) l s := by
  refine ⟨?_, ?_, hne, hcap⟩
  · unfold stH; rw [Heap.set_same]
  · unfold stH; rw [Heap.set_other _ _ (fun e => hne e.symm), Heap.set_same]
theorem stH_self {eT eS : Nat} {K : Heap} {l : Lo} {s : St} (h : AtS eT eS K l s) : stH eT eS K l s = K := by
  unfold stH
  rw [Heap.set_self h.hc, Heap.set_self h.hb]
theorem stH_stH {eT eS : Nat} {K : Heap} {l : Lo} {s s' : St} (hne : l.b ≠ l.c) : stH eT eS (stH eT eS K l s) l s' = stH eT eS K l s' := by
  funext q
  unfold stH
  simp only [Heap.set_at]
  split
  · rfl
  · split <;> rfl
/-- Another block. -/
theorem stH_other {eT eS : Nat} {K : Heap} {l : Lo} {s : St} {q : Nat} (h1 : q ≠ l.b) (h2 : q ≠ l.c) : stH eT eS K l s q = K q := by
  unfold stH
  rw [Heap.set_other _ _ h1, Heap.set_other _ _ h2]

section
variable {eT eS : Nat} {K : Heap} {l : Lo} {s : St}
theorem AtS.borrow (h : AtS eT eS K l s) {W : World} {f : Nat} {ar : List D} {r : D} (hc : ∀ W' : World, CallA Try.prog W' f (.ip (stC s) :: ar) (fun _ => none) fun d H' => d = r ∧ H' = fun _ => none) (hr : Pl r) :
    CallA Try.prog W f (.v (.pointer (some ⟨l.b, 0, none⟩)) :: ar) K fun d H' => d = r ∧ H' = K :=
  CallA.borrow (fun W' => (hc W').mono fun d H' h => h.1) (ViewL.cons h.view (ViewL.refl ar)) hr
theorem pl_ev (e : Ev) (b : Bool) : Pl (.tup [.agg (evC e), .v (.bool b)]) :=
  Pl.tup (PlL.cons (Pl.agg (PlL.cons (Pl.v _) (PlL.cons (Pl.v _) (PlL.cons (Pl.v _) (PlL.cons (Pl.v _) PlL.nil))))) (PlL.cons (Pl.v _) PlL.nil))
theorem pl_in (e : In) (b : Bool) : Pl (.tup [.agg (inC e), .v (.bool b)]) :=
  Pl.tup (PlL.cons (Pl.agg (PlL.cons (Pl.v _) (PlL.cons (Pl.v _) (PlL.cons (Pl.v _) (PlL.cons (Pl.v _) PlL.nil))))) (PlL.cons (Pl.v _) PlL.nil))

theorem mThreads_call (W : World) (h : AtS eT eS K l s) : CallA Try.prog W 30 [.v (.pointer (some ⟨l.b, 0, none⟩))] K fun r H' => r = .v (.int .i64 (s.ts.length : Int)) ∧ H' = K :=
  h.borrow (fun W' => stThreads_call W' _ s) (Pl.v _)
theorem mIs_call (W : World) (h : AtS eT eS K l s) (t : Int) : CallA Try.prog W 57 [.v (.pointer (some ⟨l.b, 0, none⟩)), .v (.int .i64 t)] K fun r H' => r = .v (.bool (s.is t)) ∧ H' = K :=
  h.borrow (fun W' => stIs_call W' _ s t) (Pl.v _)
theorem mInstr_call (W : World) (h : AtS eT eS K l s) (t : Int) (hs : OkSt s) : CallA Try.prog W 54 [.v (.pointer (some ⟨l.b, 0, none⟩)), .v (.int .i64 t)] K fun r H' => r = .tup [.agg (inC (s.ins t)), .v (.bool (s.has t))] ∧ H' = K :=
  h.borrow (fun W' => stInstr_call W' _ s t hs) (pl_in _ _)
theorem mNext_call (W : World) (h : AtS eT eS K l s) (t : Int) (hs : OkSt s) : CallA Try.prog W 31 [.v (.pointer (some ⟨l.b, 0, none⟩)), .v (.int .i64 t)] K fun r H' => r = .tup [.agg (evC (s.nxt t)), .v (.bool (s.has t))] ∧ H' = K :=
  h.borrow (fun W' => stNext_call W' _ s t hs) (pl_ev _ _)
theorem mEnabled_call (W : World) (h : AtS eT eS K l s) (t : Int) (hs : OkSt s) : CallA Try.prog W 33 [.v (.pointer (some ⟨l.b, 0, none⟩)), .v (.int .i64 t)] K fun r H' => r = .v (.bool (s.may t)) ∧ H' = K :=
  h.borrow (fun W' => stEnabled_call W' _ s t hs) (Pl.v _)
theorem nNext_call (W : World) (h : AtS eT eS K l s) (t : Int) (hs : OkSt s) : CallA Try.prog W 50 [.v (.pointer (some ⟨l.b, 0, none⟩)), .v (.int .i64 t)] K fun r H' => r = .tup [.agg (evC (s.nxt t)), .v (.bool (s.has t))] ∧ H' = K :=
  h.borrow (fun W' => rNext_call W' _ s t hs) (pl_ev _ _)
theorem nEnabled_call (W : World) (h : AtS eT eS K l s) (t : Int) (hs : OkSt s) : CallA Try.prog W 68 [.v (.pointer (some ⟨l.b, 0, none⟩)), .v (.int .i64 t)] K fun r H' => r = .v (.bool (s.may t)) ∧ H' = K :=
  h.borrow (fun W' => rEnabled_call W' _ s t hs) (Pl.v _)
end

/-- A row's cells. -/
theorem tds_get (ts : List Td) (rest : List D) {k : Nat} (h : k < ts.length) (j : Nat) (hj : j < 4) : ((tdsC ts).flatten ++ rest).getD (k * 4 + j) default = (tdC (ts.getD k default)).getD j default := by
  have h1 := row_elem (tdsC ts) rest (tdsC_all ts) (i := k) (by rw [tdsC_length]; exact h)
  rw [tdsC_get _ _ h] at h1
  rw [← h1]
  simp [List.getD_eq_getElem?_getD, List.getElem?_take, List.getElem?_drop, hj]
theorem tds_len (ts : List Td) (rest : List D) : ((tdsC ts).flatten ++ rest).length = ts.length * 4 + rest.length := by
  rw [List.length_append, elems_all (tdsC_all ts), tdsC_length]
theorem tds_put (ts : List Td) (rest : List D) {k : Nat} (h : k < ts.length) (j : Nat) (hj : j < 4) (x : D) (t : Td) (ht : tdC t = (tdC (ts.getD k default)).take j ++ [x] ++ (tdC (ts.getD k default)).drop (j + 1)) :
    ((tdsC ts).flatten ++ rest).take (k * 4 + j) ++ [x] ++ ((tdsC ts).flatten ++ rest).drop (k * 4 + j + 1) = (tdsC (ts.set k t)).flatten ++ rest := by
  have h1 := row_put (tdsC ts) rest (tdsC_all ts) (i := k) (by rw [tdsC_length]; exact h) (tdC t)
  have h0 := row_elem (tdsC ts) rest (tdsC_all ts) (i := k) (by rw [tdsC_length]; exact h)
  rw [tdsC_get _ _ h] at h0
  have h2 : (tdsC ts).set k (tdC t) = tdsC (ts.set k t) := by simp [tdsC]
  rw [h2] at h1
  rw [← h1, ht, ← h0]
  have hl := tds_len ts rest
  generalize (tdsC ts).flatten ++ rest = R at *
  have e1 : R.take (k * 4 + j) = R.take (k * 4) ++ ((R.drop (k * 4)).take 4).take j := by
    rw [List.take_take, Nat.min_eq_left (by omega), List.take_add]
  have e2 : R.drop (k * 4 + j + 1) = ((R.drop (k * 4)).take 4).drop (j + 1) ++ R.drop (k * 4 + 4) := by
    rw [List.drop_take, List.drop_drop, show k * 4 + (j + 1) = k * 4 + j + 1 by omega]
    have : R.drop (k * 4 + 4) = (R.drop (k * 4 + j + 1)).drop (4 - (j + 1)) := by rw [List.drop_drop]; congr 1; omega
    rw [this, List.take_append_drop]
  rw [e1, e2]
  simp only [List.append_assoc]
end Go.Proofs.Ytobdagjdhgjplaa
