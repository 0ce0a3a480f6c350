/-
  Calls that only read: what is ours is lent as if nobody would write it again, and comes back as it was.
-/
import Derived.Test.YtobdagjdhgjplaaRead
namespace Go.Sn
open Go Go.RowKit
set_option linter.unusedVariables false
set_option linter.unusedSimpArgs false

/-- What is read in a world in which nothing turns. -/
def View (H : Heap) (d d' : D) : Prop := ∀ (W : World) (G : IG) (w : World) (x : Value), Inv W G H w → Rep G x d → Rep (IG.of w) x d'
def ViewL (H : Heap) (ds ds' : List D) : Prop := ds.length = ds'.length ∧ ∀ (k : Nat) (d d' : D), ds[k]? = some d → ds'[k]? = some d' → View H d d'

theorem Inv.le_of {W : World} {G : IG} {H : Heap} {w : World} (h : Inv W G H w) : G.le (IG.of w) := fun b o x hx => IG.of_at (h.imm b o x hx).1 (h.imm b o x hx).2

section
variable {H : Heap}
theorem View.refl (d : D) : View H d d := fun W G w x hI hr => hr.mono hI.le_of
theorem View.flat {d d' : D} (h : View H d d') : View H d d'.flat := fun W G w x hI hr => (h W G w x hI hr).flat
theorem ViewL.nil : ViewL H [] [] := ⟨rfl, fun k d d' h => by simp at h⟩
theorem ViewL.cons {d d' : D} {ds ds' : List D} (h : View H d d') (hs : ViewL H ds ds') : ViewL H (d :: ds) (d' :: ds') := by
  refine ⟨by simp [hs.1], fun k e e' he he' => ?_⟩
  cases k with
  | zero => simp at he he'; subst he; subst he'; exact h
  | succ k => exact hs.2 k e e' (by simpa using he) (by simpa using he')
theorem ViewL.refl (ds : List D) : ViewL H ds ds := ⟨rfl, fun k d d' h h' => by rw [h] at h'; cases h'; exact View.refl d⟩
theorem ViewL.append {as as' bs bs' : List D} (h : ViewL H as as') (k : ViewL H bs bs') : ViewL H (as ++ bs) (as' ++ bs') := by
  refine ⟨by simp [h.1, k.1], fun i d d' hd hd' => ?_⟩
  rw [List.getElem?_append] at hd hd'
  rw [← h.1] at hd'
  split at hd
  · rename_i hi; rw [if_pos hi] at hd'; exact h.2 i d d' hd hd'
  · rename_i hi; rw [if_neg hi] at hd'; exact k.2 _ d d' hd hd'
theorem ViewL.reps {W : World} {G : IG} {w : World} {ds ds' : List D} (h : ViewL H ds ds') (hI : Inv W G H w) {vs : List Value} (hr : Reps G vs ds) : Reps (IG.of w) vs ds' := by
  refine ⟨hr.1.trans h.1, fun k d' c hd' hc => ?_⟩
  have hk : k < ds.length := by rw [h.1]; exact (List.getElem?_eq_some_iff.1 hd').1
  exact h.2 k ds[k] d' (List.getElem?_eq_getElem hk) hd' W G w c hI (hr.2 k _ c (List.getElem?_eq_getElem hk) hc)

theorem View.agg {ds ds' : List D} (h : ViewL H ds ds') : View H (.agg ds) (.agg ds') := by
  intro W G w x hI hr
  obtain ⟨cs, rfl, hcs⟩ := hr.inv_agg
  exact Rep.mkAgg (h.reps hI hcs)

/-- Cells of ours, as if they were immutable. -/
theorem View.cells {W : World} {G : IG} {w : World} {b o : Nat} {ds ds' rest : List D} {e : TypeId} (hI : Inv W G H w) (hb : H b = some (.cells ds e)) (h : ViewL H ((ds.drop o).take ds'.length) ds') : CellsAt (IG.of w) b o ds' := by
  obtain ⟨_, cs, hcs, hr, h1, _⟩ := hI.res b _ hb
  intro k d' hd'
  have hk : k < ((ds.drop o).take ds'.length).length := by rw [h.1]; exact (List.getElem?_eq_some_iff.1 hd').1
  have hd : ((ds.drop o).take ds'.length)[k]? = some ((ds.drop o).take ds'.length)[k] := List.getElem?_eq_getElem hk
  have hd2 : ds[o + k]? = some ((ds.drop o).take ds'.length)[k] := by
    rw [List.getElem?_take] at hd
    split at hd
    · rw [List.getElem?_drop] at hd; exact hd
    · cases hd
  obtain ⟨c, hc, hrc⟩ := hr.get hd2
  refine ⟨c, IG.of_at ?_ (h1 c (List.mem_of_getElem? hc)), h.2 k _ d' hd hd' W G w c hI hrc⟩
  rw [cell_of_row w b _ _ e _ hcs]
  simpa using hc

theorem View.row {b n c sz : Nat} {e : TypeId} {xs xs' : List (List D)} {rest : List D} (hb : H b = some (.cells (xs.flatten ++ rest) e)) (hn : xs'.length = n) (hc : n ≤ c) (hl : ∀ y ∈ xs', y.length = sz) (h : ViewL H xs.flatten xs'.flatten) :
    View H (.v (.slice (some ⟨b, 0, none⟩) n c)) (.list xs') := by
  intro W G w x hI hr
  rw [hr.inv_v]
  refine Rep.mkList hn hc hl (View.cells (rest := rest) hI hb ?_)
  rw [List.drop_zero, ← h.1, List.take_left]
  exact h
theorem View.ptr {b o : Nat} {ds ds' : List D} {e : TypeId} (hb : H b = some (.cells ds e)) (h : ViewL H ((ds.drop o).take ds'.length) ds') : View H (.v (.pointer (some ⟨b, o, none⟩))) (.ip ds') := by
  intro W G w x hI hr
  rw [hr.inv_v]
  exact Rep.mkIp (View.cells (rest := []) hI hb h)
theorem View.ptr0 {b : Nat} {ds ds' : List D} {e : TypeId} (hb : H b = some (.cells ds e)) (h : ViewL H ds ds') : View H (.v (.pointer (some ⟨b, 0, none⟩))) (.ip ds') :=
  View.ptr hb (by rw [List.drop_zero, List.take_of_length_le (by rw [h.1]; exact Nat.le_refl _)]; exact h)
theorem View.nilL : View H (.v (.slice none 0 0)) (.list []) := fun W G w x hI hr => by rw [hr.inv_v]; exact .listNil

/-- A result that hangs on no memory. -/
def Pl (r : D) : Prop := ∀ (G G' : IG) (x : Value), Rep G x r → Rep G' x r
theorem Pl.v (x : Value) : Pl (.v x) := fun G G' y h => by rw [h.inv_v]; exact .v x
theorem Pl.nil : Pl .nil := fun G G' y h => by
  rcases h.inv_nil with rfl | ⟨a, rfl⟩
  · exact .nil0
  · exact .nil1 a
theorem Pl.listNil : Pl (.list []) := fun G G' y h => by
  rcases h.inv_list with ⟨⟨a, rfl⟩, _⟩ | ⟨b, o, c, sz, rfl, _, _, _⟩
  · exact .listE a
  · exact Rep.mkList (sz := 0) rfl (Nat.zero_le _) (by simp) (fun k d hd => by simp at hd)
def PlL (ds : List D) : Prop := ∀ d ∈ ds, Pl d
theorem PlL.reps {ds : List D} (h : PlL ds) {G G' : IG} {vs : List Value} (hr : Reps G vs ds) : Reps G' vs ds :=
  ⟨hr.1, fun k d c hd hc => h d (List.mem_of_getElem? hd) G G' c (hr.2 k d c hd hc)⟩
theorem Pl.agg {ds : List D} (h : PlL ds) : Pl (.agg ds) := fun G G' y hr => by
  obtain ⟨cs, rfl, hcs⟩ := hr.inv_agg
  exact Rep.mkAgg (h.reps hcs)
theorem Pl.tup {ds : List D} (h : PlL ds) : Pl (.tup ds) := fun G G' y hr => by
  obtain ⟨cs, rfl, hcs⟩ := hr.inv_tup
  exact Rep.mkTup (h.reps hcs)
theorem PlL.nil : PlL [] := fun d h => by cases h
theorem PlL.cons {d : D} {ds : List D} (h : Pl d) (hs : PlL ds) : PlL (d :: ds) := fun e he => by
  rcases List.mem_cons.1 he with rfl | he
  · exact h
  · exact hs e he
theorem PlL.map {α : Type} {f : α → D} (h : ∀ a, Pl (f a)) (l : List α) : PlL (l.map f) := fun d hd => by
  obtain ⟨a, _, rfl⟩ := List.mem_map.1 hd
  exact h a

/-- THE LOAN. -/
theorem CallA.borrow {P : Program} {W : World} {f : FuncId} {ds ds' : List D} {r : D} (hc : ∀ W' : World, CallA P W' f ds' (fun _ => none) fun d _ => d = r) (hv : ViewL H ds ds') (hr : Pl r) :
    CallA P W f ds H fun d H' => d = r ∧ H' = H := by
  intro G vs w hI hR
  refine (hc w (IG.of w) vs w (Inv.start w) (hv.reps hI hR)).mono fun e w' ⟨G', v, d, H', he, hG, hI', hR', hd⟩ => ?_
  subst hd
  have hb := hI'.below
  refine ⟨G, v, d, H, he, .refl G, ⟨hI.below.trans ⟨hb.os, hb.tape, hb.output, hb.size, fun k hk => hb.block k (by have := hI.below.size; omega)⟩, fun b o x hx => ⟨?_, (hI.imm b o x hx).2⟩, fun b q hq => ⟨(hI.res b q hq).1, (hI.res b q hq).2.same (hb.block b (hI.res b q hq).2.lt)⟩⟩, hr _ _ v hR', rfl, rfl⟩
  have h1 := (hI.imm b o x hx).1
  have hlt := World.block_lt_of_cell? w _ h1
  rw [← h1]
  simp only at hlt
  simp only [World.cell?, hb.block b hlt]
end
end Go.Sn
