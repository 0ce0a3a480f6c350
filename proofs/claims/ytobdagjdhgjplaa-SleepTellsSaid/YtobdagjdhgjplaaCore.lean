/-
  A program logic over the kit's `Calls`: abstract values (immutable slices are lists), an affine heap of objects.
  Part 1: values, what they stand for, worlds.
-/
import Derived.WalkKit
namespace Go.Sn
open Go Go.RowKit
set_option linter.unusedVariables false
set_option linter.unusedSimpArgs false

/-- An abstract value: a value itself; an empty slice without room; a slice of immutable elements (each a row of cells); one whose
block's room is ours; a pointer to immutable cells; a struct or array; several results. -/
inductive D where
  | v (x : Value)
  | nil
  | list (xs : List (List D))
  | own (b cap : Nat) (xs : List (List D))
  | ip (ds : List D)
  | agg (ds : List D)
  | tup (ds : List D)
  /-- what was reckoned where `c` holds; nothing is known elsewhere -/
  | gd (c : Bool) (d : D)

instance : Inhabited D := ⟨.v default⟩

/-- The cells that are never written again, and what they hold. -/
abbrev IG := Nat → Nat → Option Value

def IG.le (G G' : IG) : Prop := ∀ b o x, G b o = some x → G' b o = some x
theorem IG.le.refl (G : IG) : G.le G := fun _ _ _ h => h
theorem IG.le.trans {a b c : IG} (h : a.le b) (k : b.le c) : a.le c := fun _ _ _ e => k _ _ _ (h _ _ _ e)

inductive Rep (G : IG) : Value → D → Prop
  | v (x : Value) : Rep G x (.v x)
  | nil0 : Rep G (.slice none 0 0) .nil
  | nil1 (a : Addr) : Rep G (.slice (some a) 0 0) .nil
  | listNil : Rep G (.slice none 0 0) (.list [])
  | listE (a : Option Addr) : Rep G (.slice a 0 0) (.list [])
  | list (b o n c sz : Nat) (xs : List (List D)) (f : Nat → Value) (hn : xs.length = n) (hc : n ≤ c) (hl : ∀ ds ∈ xs, ds.length = sz)
      (hg : ∀ k d, xs.flatten[k]? = some d → G b (o + k) = some (f k)) (hr : ∀ k d, xs.flatten[k]? = some d → Rep G (f k) d) :
      Rep G (.slice (some ⟨b, o, none⟩) n c) (.list xs)
  | own (b n c sz : Nat) (xs : List (List D)) (f : Nat → Value) (hn : xs.length = n) (hc : n ≤ c) (hl : ∀ ds ∈ xs, ds.length = sz)
      (hg : ∀ k d, xs.flatten[k]? = some d → G b k = some (f k)) (hr : ∀ k d, xs.flatten[k]? = some d → Rep G (f k) d) :
      Rep G (.slice (some ⟨b, 0, none⟩) n c) (.own b c xs)
  | ip (b o : Nat) (ds : List D) (f : Nat → Value) (hg : ∀ k d, ds[k]? = some d → G b (o + k) = some (f k))
      (hr : ∀ k d, ds[k]? = some d → Rep G (f k) d) : Rep G (.pointer (some ⟨b, o, none⟩)) (.ip ds)
  | agg (cs : List Value) (ds : List D) (hn : cs.length = ds.length) (hr : ∀ (k : Nat) (d : D) (c : Value), ds[k]? = some d → cs[k]? = some c → Rep G c d) :
      Rep G (.agg cs.toArray) (.agg ds)
  | tup (cs : List Value) (ds : List D) (hn : cs.length = ds.length) (hr : ∀ (k : Nat) (d : D) (c : Value), ds[k]? = some d → cs[k]? = some c → Rep G c d) :
      Rep G (.tuple cs.toArray) (.tup ds)
  | gdT (x : Value) (d : D) (hr : Rep G x d) : Rep G x (.gd true d)
  | gdF (d : D) : Rep G undef (.gd false d)

theorem Rep.mono {G G' : IG} (hG : G.le G') {x : Value} {d : D} (h : Rep G x d) : Rep G' x d := by
  induction h with
  | v x => exact .v x
  | nil0 => exact .nil0
  | nil1 a => exact .nil1 a
  | listNil => exact .listNil
  | listE a => exact .listE a
  | list b o n c sz xs f hn hc hl hg hr ih => exact .list b o n c sz xs f hn hc hl (fun k d h => hG _ _ _ (hg k d h)) ih
  | own b n c sz xs f hn hc hl hg hr ih => exact .own b n c sz xs f hn hc hl (fun k d h => hG _ _ _ (hg k d h)) ih
  | ip b o ds f hg hr ih => exact .ip b o ds f (fun k d h => hG _ _ _ (hg k d h)) ih
  | agg cs ds hn hr ih => exact .agg cs ds hn ih
  | tup cs ds hn hr ih => exact .tup cs ds hn ih
  | gdT x d hr ih => exact .gdT x d ih
  | gdF d => exact .gdF d

/-- Cells that stand for a row of abstract cells. -/
def Reps (G : IG) (cs : List Value) (ds : List D) : Prop :=
  cs.length = ds.length ∧ ∀ (k : Nat) (d : D) (c : Value), ds[k]? = some d → cs[k]? = some c → Rep G c d

theorem Reps.mono {G G' : IG} (hG : G.le G') {cs : List Value} {ds : List D} (h : Reps G cs ds) : Reps G' cs ds :=
  ⟨h.1, fun k d c hd hc => (h.2 k d c hd hc).mono hG⟩

theorem Reps.nil (G : IG) : Reps G [] [] := ⟨rfl, fun k d c h => by simp at h⟩
theorem Reps.cons {G : IG} {c : Value} {cs : List Value} {d : D} {ds : List D} (h : Rep G c d) (hs : Reps G cs ds) : Reps G (c :: cs) (d :: ds) := by
  refine ⟨by simp [hs.1], fun k d' c' hd hc => ?_⟩
  cases k with
  | zero => simp at hd hc; subst hd; subst hc; exact h
  | succ k => exact hs.2 k d' c' (by simpa using hd) (by simpa using hc)
theorem Reps.append {G : IG} {cs cs' : List Value} {ds ds' : List D} (h : Reps G cs ds) (h' : Reps G cs' ds') : Reps G (cs ++ cs') (ds ++ ds') := by
  refine ⟨by simp [h.1, h'.1], fun k d c hd hc => ?_⟩
  rw [List.getElem?_append] at hd hc
  rw [h.1] at hc
  split at hd
  · rename_i hk; rw [if_pos hk] at hc; exact h.2 k d c hd hc
  · rename_i hk; rw [if_neg hk] at hc; exact h'.2 _ d c hd hc
theorem Reps.take {G : IG} {cs : List Value} {ds : List D} (h : Reps G cs ds) (n : Nat) : Reps G (cs.take n) (ds.take n) := by
  refine ⟨by simp [h.1], fun k d c hd hc => ?_⟩
  rw [List.getElem?_take] at hd hc
  split at hd
  · rename_i hk; rw [if_pos hk] at hc; exact h.2 k d c hd hc
  · cases hd
theorem Reps.drop {G : IG} {cs : List Value} {ds : List D} (h : Reps G cs ds) (n : Nat) : Reps G (cs.drop n) (ds.drop n) := by
  refine ⟨by simp [h.1], fun k d c hd hc => ?_⟩
  rw [List.getElem?_drop] at hd hc
  exact h.2 _ d c hd hc
theorem Reps.get {G : IG} {cs : List Value} {ds : List D} (h : Reps G cs ds) {k : Nat} {d : D} (hd : ds[k]? = some d) : ∃ c, cs[k]? = some c ∧ Rep G c d := by
  have hk : k < ds.length := (List.getElem?_eq_some_iff.1 hd).1
  have hk' : k < cs.length := by rw [h.1]; exact hk
  exact ⟨cs[k], List.getElem?_eq_getElem hk', h.2 k d _ hd (List.getElem?_eq_getElem hk')⟩
/-- A row of values standing for themselves. -/
theorem Reps.self (G : IG) (cs : List Value) : Reps G cs (cs.map .v) := by
  refine ⟨by simp, fun k d c hd hc => ?_⟩
  rw [List.getElem?_map, hc] at hd
  simp at hd
  subst hd
  exact .v c

/-- Cells of the immutable part. -/
def CellsAt (G : IG) (b o : Nat) (ds : List D) : Prop := ∀ k d, ds[k]? = some d → ∃ x, G b (o + k) = some x ∧ Rep G x d

theorem CellsAt.fn {G : IG} {b o : Nat} {ds : List D} (h : CellsAt G b o ds) :
    (∀ k d, ds[k]? = some d → G b (o + k) = some ((G b (o + k)).getD default)) ∧ (∀ k d, ds[k]? = some d → Rep G ((G b (o + k)).getD default) d) := by
  refine ⟨fun k d hd => ?_, fun k d hd => ?_⟩
  · obtain ⟨x, hx, _⟩ := h k d hd; simp [hx]
  · obtain ⟨x, hx, hr⟩ := h k d hd; simp [hx]; exact hr

theorem CellsAt.reps {G : IG} {b o : Nat} {ds : List D} (h : CellsAt G b o ds) :
    ∃ cs : List Value, Reps G cs ds ∧ ∀ k c, cs[k]? = some c → G b (o + k) = some c := by
  refine ⟨(List.range ds.length).map (fun k => (G b (o + k)).getD default), ⟨by simp, fun k d c hd hc => ?_⟩, fun k c hc => ?_⟩
  · have hk : k < ds.length := (List.getElem?_eq_some_iff.1 hd).1
    simp [hk] at hc
    subst hc
    exact h.fn.2 k d hd
  · have hk : k < ds.length := by
      have := (List.getElem?_eq_some_iff.1 hc).1
      simpa using this
    simp [hk] at hc
    subst hc
    obtain ⟨x, hx, _⟩ := h k ds[k] (List.getElem?_eq_getElem hk)
    simp [hx]

theorem CellsAt.mono {G G' : IG} (hG : G.le G') {b o : Nat} {ds : List D} (h : CellsAt G b o ds) : CellsAt G' b o ds :=
  fun k d hd => let ⟨x, hx, hr⟩ := h k d hd; ⟨x, hG _ _ _ hx, hr.mono hG⟩
theorem CellsAt.take {G : IG} {b o : Nat} {ds : List D} (h : CellsAt G b o ds) (n : Nat) : CellsAt G b o (ds.take n) := by
  intro k d hd
  rw [List.getElem?_take] at hd
  split at hd
  · exact h k d hd
  · cases hd
theorem CellsAt.drop {G : IG} {b o : Nat} {ds : List D} (h : CellsAt G b o ds) (n : Nat) : CellsAt G b (o + n) (ds.drop n) := by
  intro k d hd
  rw [List.getElem?_drop] at hd
  rw [Nat.add_assoc]
  exact h _ d hd
theorem CellsAt.append {G : IG} {b o : Nat} {ds ds' : List D} (h : CellsAt G b o ds) (h' : CellsAt G b (o + ds.length) ds') : CellsAt G b o (ds ++ ds') := by
  intro k d hd
  rw [List.getElem?_append] at hd
  split at hd
  · exact h k d hd
  · rename_i hk
    obtain ⟨x, hx, hr⟩ := h' _ d hd
    exact ⟨x, by rw [← hx]; congr 1; omega, hr⟩

theorem Rep.mkList {G : IG} {b o n c sz : Nat} {xs : List (List D)} (hn : xs.length = n) (hc : n ≤ c) (hl : ∀ ds ∈ xs, ds.length = sz) (h : CellsAt G b o xs.flatten) :
    Rep G (.slice (some ⟨b, o, none⟩) n c) (.list xs) := .list b o n c sz xs _ hn hc hl h.fn.1 h.fn.2
theorem Rep.mkOwn {G : IG} {b n c sz : Nat} {xs : List (List D)} (hn : xs.length = n) (hc : n ≤ c) (hl : ∀ ds ∈ xs, ds.length = sz) (h : CellsAt G b 0 xs.flatten) :
    Rep G (.slice (some ⟨b, 0, none⟩) n c) (.own b c xs) := by
  have h1 := h.fn.1
  have h2 := h.fn.2
  simp only [Nat.zero_add] at h1 h2
  exact .own b n c sz xs _ hn hc hl h1 h2
theorem Rep.mkIp {G : IG} {b o : Nat} {ds : List D} (h : CellsAt G b o ds) : Rep G (.pointer (some ⟨b, o, none⟩)) (.ip ds) := .ip b o ds _ h.fn.1 h.fn.2
theorem Rep.mkAgg {G : IG} {cs : List Value} {ds : List D} (h : Reps G cs ds) : Rep G (.agg cs.toArray) (.agg ds) := .agg cs ds h.1 h.2
theorem Rep.mkTup {G : IG} {cs : List Value} {ds : List D} (h : Reps G cs ds) : Rep G (.tuple cs.toArray) (.tup ds) := .tup cs ds h.1 h.2

theorem Rep.inv_v {G : IG} {x y : Value} (h : Rep G x (.v y)) : x = y := by cases h; rfl
theorem Rep.inv_nil {G : IG} {x : Value} (h : Rep G x .nil) : x = .slice none 0 0 ∨ ∃ a, x = .slice (some a) 0 0 := by
  cases h with
  | nil0 => exact .inl rfl
  | nil1 a => exact .inr ⟨a, rfl⟩
theorem Rep.inv_list {G : IG} {x : Value} {xs : List (List D)} (h : Rep G x (.list xs)) :
    ((∃ a, x = .slice a 0 0) ∧ xs = []) ∨ ∃ b o c sz, x = .slice (some ⟨b, o, none⟩) xs.length c ∧ xs.length ≤ c ∧ (∀ ds ∈ xs, ds.length = sz) ∧ CellsAt G b o xs.flatten := by
  cases h with
  | listNil => exact .inl ⟨⟨none, rfl⟩, rfl⟩
  | listE a => exact .inl ⟨⟨a, rfl⟩, rfl⟩
  | list b o n c sz xs f hn hc hl hg hr =>
    subst hn
    exact .inr ⟨b, o, c, sz, rfl, hc, hl, fun k d hd => ⟨f k, hg k d hd, hr k d hd⟩⟩
theorem Rep.inv_own {G : IG} {x : Value} {b c : Nat} {xs : List (List D)} (h : Rep G x (.own b c xs)) :
    ∃ sz, x = .slice (some ⟨b, 0, none⟩) xs.length c ∧ xs.length ≤ c ∧ (∀ ds ∈ xs, ds.length = sz) ∧ CellsAt G b 0 xs.flatten := by
  cases h with
  | own b n c sz xs f hn hc hl hg hr =>
    subst hn
    exact ⟨sz, rfl, hc, hl, fun k d hd => ⟨f k, by simpa using hg k d hd, hr k d hd⟩⟩
theorem Rep.inv_ip {G : IG} {x : Value} {ds : List D} (h : Rep G x (.ip ds)) : ∃ b o, x = .pointer (some ⟨b, o, none⟩) ∧ CellsAt G b o ds := by
  cases h with
  | ip b o ds f hg hr => exact ⟨b, o, rfl, fun k d hd => ⟨f k, hg k d hd, hr k d hd⟩⟩
theorem Rep.inv_agg {G : IG} {x : Value} {ds : List D} (h : Rep G x (.agg ds)) : ∃ cs : List Value, x = .agg cs.toArray ∧ Reps G cs ds := by
  cases h with
  | agg cs ds hn hr => exact ⟨cs, rfl, hn, hr⟩
theorem Rep.inv_gd {G : IG} {x : Value} {c : Bool} {d : D} (h : Rep G x (.gd c d)) (hc : c = true) : Rep G x d := by
  cases h with
  | gdT _ _ hr => exact hr
  | gdF => cases hc
theorem Rep.inv_tup {G : IG} {x : Value} {ds : List D} (h : Rep G x (.tup ds)) : ∃ cs : List Value, x = .tuple cs.toArray ∧ Reps G cs ds := by
  cases h with
  | tup cs ds hn hr => exact ⟨cs, rfl, hn, hr⟩

/-- What is known of a slice whatever its room. -/
def D.flat0 : D → D
  | .nil => .list []
  | .own _ _ xs => .list xs
  | d => d

theorem Rep.flat0 {G : IG} {x : Value} {d : D} (h : Rep G x d) : Rep G x d.flat0 := by
  cases h with
  | nil0 => exact .listNil
  | nil1 a => exact .listE (some a)
  | own b n c sz xs f hn hc hl hg hr => exact .list b 0 n c sz xs f hn hc hl (by simpa using hg) hr
  | v x => exact .v x
  | listNil => exact .listNil
  | listE a => exact .listE a
  | list b o n c sz xs f hn hc hl hg hr => exact .list b o n c sz xs f hn hc hl hg hr
  | ip b o ds f hg hr => exact .ip b o ds f hg hr
  | agg cs ds hn hr => exact .agg cs ds hn hr
  | tup cs ds hn hr => exact .tup cs ds hn hr
  | gdT x d hr => exact .gdT x d hr
  | gdF d => exact .gdF d

theorem D.flat0_list (xs : List (List D)) : (D.list xs).flat0 = .list xs := rfl
theorem D.flat0_own (b c : Nat) (xs : List (List D)) : (D.own b c xs).flat0 = .list xs := rfl
theorem D.flat0_nil : D.nil.flat0 = .list [] := rfl
theorem D.flat0_v (x : Value) : (D.v x).flat0 = .v x := rfl
theorem D.flat0_ip (ds : List D) : (D.ip ds).flat0 = .ip ds := rfl
theorem D.flat0_agg (ds : List D) : (D.agg ds).flat0 = .agg ds := rfl
theorem D.flat0_gd (c : Bool) (d : D) : (D.gd c d).flat0 = .gd c d := rfl
theorem D.flat0_tup (ds : List D) : (D.tup ds).flat0 = .tup ds := rfl

/-- .. of what stands in a struct too. -/
def D.flat : D → D
  | .nil => .list []
  | .own _ _ xs => .list xs
  | .agg ds => .agg (ds.map D.flat0)
  | d => d
theorem Rep.flat {G : IG} {x : Value} {d : D} (h : Rep G x d) : Rep G x d.flat := by
  cases h with
  | agg cs ds hn hr =>
    refine .agg cs _ (by simpa using hn) fun k d c hd hc => ?_
    rw [List.getElem?_map, Option.map_eq_some_iff] at hd
    obtain ⟨d0, hd0, rfl⟩ := hd
    exact (hr k d0 c hd0 hc).flat0
  | nil0 => exact .listNil
  | nil1 a => exact .listE (some a)
  | own b n c sz xs f hn hc hl hg hr => exact .list b 0 n c sz xs f hn hc hl (by simpa using hg) hr
  | v x => exact .v x
  | listNil => exact .listNil
  | listE a => exact .listE a
  | list b o n c sz xs f hn hc hl hg hr => exact .list b o n c sz xs f hn hc hl hg hr
  | ip b o ds f hg hr => exact .ip b o ds f hg hr
  | tup cs ds hn hr => exact .tup cs ds hn hr
  | gdT x d hr => exact .gdT x d hr
  | gdF d => exact .gdF d
theorem D.flat_list (xs : List (List D)) : (D.list xs).flat = .list xs := rfl
theorem D.flat_own (b c : Nat) (xs : List (List D)) : (D.own b c xs).flat = .list xs := rfl
theorem D.flat_nil : D.nil.flat = .list [] := rfl
theorem D.flat_v (x : Value) : (D.v x).flat = .v x := rfl
theorem D.flat_ip (ds : List D) : (D.ip ds).flat = .ip ds := rfl
theorem D.flat_agg (ds : List D) : (D.agg ds).flat = .agg (ds.map D.flat0) := rfl
theorem D.flat_gd (c : Bool) (d : D) : (D.gd c d).flat = .gd c d := rfl
theorem D.flat_tup (ds : List D) : (D.tup ds).flat = .tup ds := rfl

/-- A constant, as an abstract value. -/
def ofV : Value → D
  | .slice none 0 0 => .nil
  | .agg cs => .agg (cs.toList.map .v)
  | .tuple cs => .tup (cs.toList.map .v)
  | x => .v x

theorem rep_ofV (G : IG) (x : Value) : Rep G x (ofV x) := by
  unfold ofV
  split
  · exact .nil0
  · rename_i cs; exact Rep.mkAgg (cs := cs.toList) (Reps.self G _)
  · rename_i cs; exact Rep.mkTup (cs := cs.toList) (Reps.self G _)
  · exact .v x

/-! ### the heap of what is ours -/

inductive Res where
  /-- a block of cells that only we know of -/
  | cells (ds : List D) (e : TypeId)
  /-- a block whose first `n` elements are immutable, and whose room is ours -/
  | grow (e : TypeId) (n cap sz : Nat)
  /-- a map: its entries, oldest first -/
  | map (es : List (Value × D))

abbrev Heap := Nat → Option Res

def Heap.set (H : Heap) (b : Nat) (r : Res) : Heap := fun k => if k = b then some r else H k
def Heap.del (H : Heap) (b : Nat) : Heap := fun k => if k = b then none else H k

theorem Heap.set_at (H : Heap) (b k : Nat) (r : Res) : (H.set b r) k = if k = b then some r else H k := rfl
theorem Heap.del_at (H : Heap) (b k : Nat) : (H.del b) k = if k = b then none else H k := rfl
theorem Heap.set_same (H : Heap) (b : Nat) (r : Res) : (H.set b r) b = some r := by simp [Heap.set]
theorem Heap.set_other (H : Heap) {b k : Nat} (r : Res) (h : k ≠ b) : (H.set b r) k = H k := by simp [Heap.set, h]
theorem Heap.set_set (H : Heap) (b : Nat) (r s : Res) : (H.set b r).set b s = H.set b s := by
  funext k; simp only [Heap.set]; split <;> rfl
theorem Heap.set_comm (H : Heap) {b c : Nat} (r s : Res) (h : b ≠ c) : (H.set b r).set c s = (H.set c s).set b r := by
  funext k; simp only [Heap.set]; split <;> split <;> simp_all

def Res.holds (G : IG) (w : World) (b : Nat) : Res → Prop
  | .cells ds e => ∃ cs : List Value, w.heap[b]? = some (.cells cs.toArray e (0, 0)) ∧ Reps G cs ds ∧ (∀ c ∈ cs, c.oneCell' = true) ∧ ∀ o, G b o = none
  | .grow e n cap sz => ∃ cur : Array Value, w.heap[b]? = some (.cells cur e (0, 0)) ∧ cur.size = cap * sz ∧ n ≤ cap ∧ cap ≤ maxLen ∧ ∀ o, n * sz ≤ o → G b o = none
  | .map es => ∃ (ms : List MapEntry) (clock : Nat), w.heap[b]? = some (.map ms.toArray clock) ∧ ms.length = es.length ∧
      (∀ (k : Nat) (m : MapEntry) (e : Value × D), ms[k]? = some m → es[k]? = some e → m.key = e.1 ∧ Rep G m.val e.2) ∧ clock = ms.length ∧ ∀ (k : Nat) (m : MapEntry), ms[k]? = some m → m.born = k

theorem Res.holds.lt {G : IG} {w : World} {b : Nat} {r : Res} (h : r.holds G w b) : b < w.heap.size := by
  cases r with
  | cells ds e => obtain ⟨cs, h, _⟩ := h; exact (Array.getElem?_eq_some_iff.1 h).1
  | grow e n cap sz => obtain ⟨cs, h, _⟩ := h; exact (Array.getElem?_eq_some_iff.1 h).1
  | map es => obtain ⟨cs, ck, h, _⟩ := h; exact (Array.getElem?_eq_some_iff.1 h).1

/-- The world `w` is as the abstract state says; nothing that was there in `W` has turned. -/
structure Inv (W : World) (G : IG) (H : Heap) (w : World) : Prop where
  below : Below W.heap.size W w
  imm : ∀ b o x, G b o = some x → w.cell? ⟨b, o, none⟩ = some x ∧ x.oneCell' = true
  res : ∀ b r, H b = some r → W.heap.size ≤ b ∧ r.holds G w b

theorem Inv.fresh {W : World} {G : IG} {H : Heap} {w : World} (h : Inv W G H w) {b : Nat} (hb : w.heap.size ≤ b) : H b = none := by
  cases hr : H b with
  | none => rfl
  | some r => have := (h.res b r hr).2.lt; omega
theorem Inv.gfresh {W : World} {G : IG} {H : Heap} {w : World} (h : Inv W G H w) {b : Nat} (hb : w.heap.size ≤ b) (o : Nat) : G b o = none := by
  cases hr : G b o with
  | none => rfl
  | some x => have := World.block_lt_of_cell? w _ (h.imm b o x hr).1; simp at this; omega

theorem Res.holds.same {G : IG} {w w' : World} {b : Nat} {r : Res} (h : r.holds G w b) (hb : w'.heap[b]? = w.heap[b]?) : r.holds G w' b := by
  cases r with
  | cells ds e => obtain ⟨cs, h, k⟩ := h; exact ⟨cs, hb.trans h, k⟩
  | grow e n cap sz => obtain ⟨cs, h, k⟩ := h; exact ⟨cs, hb.trans h, k⟩
  | map es => obtain ⟨cs, ck, h, k⟩ := h; exact ⟨cs, ck, hb.trans h, k⟩

/-- A draw turns nothing. -/
theorem Inv.drew {W : World} {G : IG} {H : Heap} {w : World} (h : Inv W G H w) : Inv W G H w.drew :=
  ⟨h.below.drew, h.imm, fun b r hr => ⟨(h.res b r hr).1, (h.res b r hr).2.same rfl⟩⟩

/-- What we no longer want to know. -/
theorem Inv.weaken {W : World} {G : IG} {H H' : Heap} {w : World} (h : Inv W G H w) (hH : ∀ b r, H' b = some r → H b = some r) : Inv W G H' w :=
  ⟨h.below, h.imm, fun b r hr => h.res b r (hH b r hr)⟩

/-- A new block. -/
theorem Inv.alloc {W : World} {G : IG} {H : Heap} {w : World} (h : Inv W G H w) (o : Obj) : Inv W G H (w.alloc o) :=
  ⟨h.below.alloc h.below.size o, fun b p x hx => ⟨by
      rw [World.cell?_alloc_lt]
      · exact (h.imm b p x hx).1
      · exact World.block_lt_of_cell? w _ (h.imm b p x hx).1, (h.imm b p x hx).2⟩,
    fun b r hr => ⟨(h.res b r hr).1, (h.res b r hr).2.same (Below.heap_alloc w o _ (h.res b r hr).2.lt)⟩⟩

theorem Inv.add {W : World} {G : IG} {H : Heap} {w : World} (h : Inv W G H w) {b : Nat} {r : Res} (hb : W.heap.size ≤ b) (hr : r.holds G w b) : Inv W G (H.set b r) w :=
  ⟨h.below, h.imm, fun k r' hk => by
    rw [Heap.set_at] at hk
    split at hk
    · rename_i e; subst e; cases hk; exact ⟨hb, hr⟩
    · exact h.res k r' hk⟩

theorem Inv.allocCells {W : World} {G : IG} {H : Heap} {w : World} (h : Inv W G H w) (cs : List Value) (ds : List D) (e : TypeId) (hr : Reps G cs ds)
    (h1 : ∀ c ∈ cs, c.oneCell' = true) : Inv W G (H.set w.heap.size (.cells ds e)) (w.alloc (.cells cs.toArray e)) :=
  (h.alloc _).add h.below.size ⟨cs, heap_alloc_new w _, hr, h1, fun o => h.gfresh (Nat.le_refl _) o⟩

/-- Cells of a block of ours, written. -/
theorem Inv.setRow {W : World} {G : IG} {H : Heap} {w : World} (h : Inv W G H w) {b : Nat} {ds ds' : List D} {e : TypeId} (hb : H b = some (.cells ds e)) (cs : List Value)
    (hr : Reps G cs ds') (h1 : ∀ c ∈ cs, c.oneCell' = true) : Inv W G (H.set b (.cells ds' e)) (w.setRow b cs.toArray) := by
  obtain ⟨hWb, cur, hcur, _, _, hG⟩ := h.res b _ hb
  have hset : (w.setRow b cs.toArray).heap[b]? = some (.cells cs.toArray e (0, 0)) := setRow_heap w b _ _ e _ hcur
  refine ⟨h.below.trans ⟨rfl, rfl, rfl, by simp, fun k hk => setRow_other w b k _ (by omega)⟩, fun p o x hx => ⟨?_, (h.imm p o x hx).2⟩, fun k r hk => ?_⟩
  · have hpb : p ≠ b := fun e => by subst e; rw [hG o] at hx; cases hx
    rw [cell_setRow_other w b _ _ hpb]
    exact (h.imm p o x hx).1
  · rw [Heap.set_at] at hk
    split at hk
    · rename_i e; subst e; cases hk; exact ⟨hWb, cs, hset, hr, h1, hG⟩
    · rename_i hkb
      exact ⟨(h.res k r hk).1, (h.res k r hk).2.same (setRow_other w b k _ hkb)⟩

/-- The immutable part grows by cells that are there and that nobody owns. -/
theorem Res.holds.gmono {G G' : IG} {w : World} {b : Nat} {r : Res} (h : r.holds G w b) (hG : G.le G') (hb : ∀ o, G' b o = G b o) : r.holds G' w b := by
  cases r with
  | cells ds e => obtain ⟨cs, h, hr, h1, hg⟩ := h; exact ⟨cs, h, hr.mono hG, h1, fun o => (hb o).trans (hg o)⟩
  | grow e n cap sz => obtain ⟨cs, h, h1, h2, h3, hg⟩ := h; exact ⟨cs, h, h1, h2, h3, fun o ho => (hb o).trans (hg o ho)⟩
  | map es => obtain ⟨ms, ck, h, hl, hr, hs⟩ := h; exact ⟨ms, ck, h, hl, fun k m e hm he => ⟨(hr k m e hm he).1, (hr k m e hm he).2.mono hG⟩, hs⟩

/-- G with the cells of a block from o on. -/
def IG.add (G : IG) (b o : Nat) (cs : List Value) : IG := fun k p => if k = b ∧ o ≤ p ∧ p < o + cs.length then cs[p - o]? else G k p

theorem IG.add_other (G : IG) {b k : Nat} (o : Nat) (cs : List Value) (h : k ≠ b) (p : Nat) : (G.add b o cs) k p = G k p := by simp [IG.add, h]
theorem IG.add_at (G : IG) (b o : Nat) (cs : List Value) {k : Nat} {c : Value} (h : cs[k]? = some c) : (G.add b o cs) b (o + k) = some c := by
  have hk : k < cs.length := (List.getElem?_eq_some_iff.1 h).1
  simp only [IG.add]
  rw [if_pos ⟨trivial, by omega, by omega⟩, Nat.add_sub_cancel_left, h]
theorem IG.le_add (G : IG) (b o : Nat) (cs : List Value) (h : ∀ p, o ≤ p → G b p = none) : G.le (G.add b o cs) := by
  intro k p x hx
  unfold IG.add
  split
  · rename_i hh
    obtain ⟨rfl, h1, h2⟩ := hh
    rw [h p h1] at hx; cases hx
  · exact hx

end Go.Sn
