/-
  Several texts in one: Core, Ops, Ops2, Ops3, Run, Region, Ops4, Ops5.
-/
import Derived.WalkKit
import Derived.Laws.StructEq
import Derived.ChangeKeysEq
import Derived.Lib.ConvBytes
import Derived.Laws.BytesArg
import Derived.Laws.MakeOwn
namespace Go.Sn
open Go Go.RowKit
set_option linter.unusedVariables false
set_option linter.unusedSimpArgs false

/-- An abstract value: a value itself; an empty slice without room; a slice of immutable elements (each a row of cells); one whose
block's room is ours; a pointer to immutable cells; a struct or array; several results. -/
inductive D where
  | v (x : Value)
  | nil
  | list (xs : List (List D))
  | own (b cap : Nat) (xs : List (List D))
  | ip (ds : List D)
  | agg (ds : List D)
  | tup (ds : List D)
  /-- what was reckoned where `c` holds; nothing is known elsewhere -/
  | gd (c : Bool) (d : D)

instance : Inhabited D := ⟨.v default⟩

/-- The cells that are never written again, and what they hold. -/
abbrev IG := Nat → Nat → Option Value

def IG.le (G G' : IG) : Prop := ∀ b o x, G b o = some x → G' b o = some x
theorem IG.le.refl (G : IG) : G.le G := fun _ _ _ h => h
theorem IG.le.trans {a b c : IG} (h : a.le b) (k : b.le c) : a.le c := fun _ _ _ e => k _ _ _ (h _ _ _ e)

inductive Rep (G : IG) : Value → D → Prop
  | v (x : Value) : Rep G x (.v x)
  | nil0 : Rep G (.slice none 0 0) .nil
  | nil1 (a : Addr) : Rep G (.slice (some a) 0 0) .nil
  | listNil : Rep G (.slice none 0 0) (.list [])
  | listE (a : Option Addr) : Rep G (.slice a 0 0) (.list [])
  | list (b o n c sz : Nat) (xs : List (List D)) (f : Nat → Value) (hn : xs.length = n) (hc : n ≤ c) (hl : ∀ ds ∈ xs, ds.length = sz)
      (hg : ∀ k d, xs.flatten[k]? = some d → G b (o + k) = some (f k)) (hr : ∀ k d, xs.flatten[k]? = some d → Rep G (f k) d) :
      Rep G (.slice (some ⟨b, o, none⟩) n c) (.list xs)
  | own (b n c sz : Nat) (xs : List (List D)) (f : Nat → Value) (hn : xs.length = n) (hc : n ≤ c) (hl : ∀ ds ∈ xs, ds.length = sz)
      (hg : ∀ k d, xs.flatten[k]? = some d → G b k = some (f k)) (hr : ∀ k d, xs.flatten[k]? = some d → Rep G (f k) d) :
      Rep G (.slice (some ⟨b, 0, none⟩) n c) (.own b c xs)
  | ip (b o : Nat) (ds : List D) (f : Nat → Value) (hg : ∀ k d, ds[k]? = some d → G b (o + k) = some (f k))
      (hr : ∀ k d, ds[k]? = some d → Rep G (f k) d) : Rep G (.pointer (some ⟨b, o, none⟩)) (.ip ds)
  | agg (cs : List Value) (ds : List D) (hn : cs.length = ds.length) (hr : ∀ (k : Nat) (d : D) (c : Value), ds[k]? = some d → cs[k]? = some c → Rep G c d) :
      Rep G (.agg cs.toArray) (.agg ds)
  | tup (cs : List Value) (ds : List D) (hn : cs.length = ds.length) (hr : ∀ (k : Nat) (d : D) (c : Value), ds[k]? = some d → cs[k]? = some c → Rep G c d) :
      Rep G (.tuple cs.toArray) (.tup ds)
  | gdT (x : Value) (d : D) (hr : Rep G x d) : Rep G x (.gd true d)
  | gdF (d : D) : Rep G undef (.gd false d)

theorem Rep.mono {G G' : IG} (hG : G.le G') {x : Value} {d : D} (h : Rep G x d) : Rep G' x d := by
  induction h with
  | v x => exact .v x
  | nil0 => exact .nil0
  | nil1 a => exact .nil1 a
  | listNil => exact .listNil
  | listE a => exact .listE a
  | list b o n c sz xs f hn hc hl hg hr ih => exact .list b o n c sz xs f hn hc hl (fun k d h => hG _ _ _ (hg k d h)) ih
  | own b n c sz xs f hn hc hl hg hr ih => exact .own b n c sz xs f hn hc hl (fun k d h => hG _ _ _ (hg k d h)) ih
  | ip b o ds f hg hr ih => exact .ip b o ds f (fun k d h => hG _ _ _ (hg k d h)) ih
  | agg cs ds hn hr ih => exact .agg cs ds hn ih
  | tup cs ds hn hr ih => exact .tup cs ds hn ih
  | gdT x d hr ih => exact .gdT x d ih
  | gdF d => exact .gdF d

/-- Cells that stand for a row of abstract cells. -/
def Reps (G : IG) (cs : List Value) (ds : List D) : Prop :=
  cs.length = ds.length ∧ ∀ (k : Nat) (d : D) (c : Value), ds[k]? = some d → cs[k]? = some c → Rep G c d

theorem Reps.mono {G G' : IG} (hG : G.le G') {cs : List Value} {ds : List D} (h : Reps G cs ds) : Reps G' cs ds :=
  ⟨h.1, fun k d c hd hc => (h.2 k d c hd hc).mono hG⟩

theorem Reps.nil (G : IG) : Reps G [] [] := ⟨rfl, fun k d c h => by simp at h⟩
theorem Reps.cons {G : IG} {c : Value} {cs : List Value} {d : D} {ds : List D} (h : Rep G c d) (hs : Reps G cs ds) : Reps G (c :: cs) (d :: ds) := by
  refine ⟨by simp [hs.1], fun k d' c' hd hc => ?_⟩
  cases k with
  | zero => simp at hd hc; subst hd; subst hc; exact h
  | succ k => exact hs.2 k d' c' (by simpa using hd) (by simpa using hc)
theorem Reps.append {G : IG} {cs cs' : List Value} {ds ds' : List D} (h : Reps G cs ds) (h' : Reps G cs' ds') : Reps G (cs ++ cs') (ds ++ ds') := by
  refine ⟨by simp [h.1, h'.1], fun k d c hd hc => ?_⟩
  rw [List.getElem?_append] at hd hc
  rw [h.1] at hc
  split at hd
  · rename_i hk; rw [if_pos hk] at hc; exact h.2 k d c hd hc
  · rename_i hk; rw [if_neg hk] at hc; exact h'.2 _ d c hd hc
theorem Reps.take {G : IG} {cs : List Value} {ds : List D} (h : Reps G cs ds) (n : Nat) : Reps G (cs.take n) (ds.take n) := by
  refine ⟨by simp [h.1], fun k d c hd hc => ?_⟩
  rw [List.getElem?_take] at hd hc
  split at hd
  · rename_i hk; rw [if_pos hk] at hc; exact h.2 k d c hd hc
  · cases hd
theorem Reps.drop {G : IG} {cs : List Value} {ds : List D} (h : Reps G cs ds) (n : Nat) : Reps G (cs.drop n) (ds.drop n) := by
  refine ⟨by simp [h.1], fun k d c hd hc => ?_⟩
  rw [List.getElem?_drop] at hd hc
  exact h.2 _ d c hd hc
theorem Reps.get {G : IG} {cs : List Value} {ds : List D} (h : Reps G cs ds) {k : Nat} {d : D} (hd : ds[k]? = some d) : ∃ c, cs[k]? = some c ∧ Rep G c d := by
  have hk : k < ds.length := (List.getElem?_eq_some_iff.1 hd).1
  have hk' : k < cs.length := by rw [h.1]; exact hk
  exact ⟨cs[k], List.getElem?_eq_getElem hk', h.2 k d _ hd (List.getElem?_eq_getElem hk')⟩
/-- A row of values standing for themselves. -/
theorem Reps.self (G : IG) (cs : List Value) : Reps G cs (cs.map .v) := by
  refine ⟨by simp, fun k d c hd hc => ?_⟩
  rw [List.getElem?_map, hc] at hd
  simp at hd
  subst hd
  exact .v c

/-- Cells of the immutable part. -/
def CellsAt (G : IG) (b o : Nat) (ds : List D) : Prop := ∀ k d, ds[k]? = some d → ∃ x, G b (o + k) = some x ∧ Rep G x d

theorem CellsAt.fn {G : IG} {b o : Nat} {ds : List D} (h : CellsAt G b o ds) :
    (∀ k d, ds[k]? = some d → G b (o + k) = some ((G b (o + k)).getD default)) ∧ (∀ k d, ds[k]? = some d → Rep G ((G b (o + k)).getD default) d) := by
  refine ⟨fun k d hd => ?_, fun k d hd => ?_⟩
  · obtain ⟨x, hx, _⟩ := h k d hd; simp [hx]
  · obtain ⟨x, hx, hr⟩ := h k d hd; simp [hx]; exact hr

theorem CellsAt.reps {G : IG} {b o : Nat} {ds : List D} (h : CellsAt G b o ds) :
    ∃ cs : List Value, Reps G cs ds ∧ ∀ k c, cs[k]? = some c → G b (o + k) = some c := by
  refine ⟨(List.range ds.length).map (fun k => (G b (o + k)).getD default), ⟨by simp, fun k d c hd hc => ?_⟩, fun k c hc => ?_⟩
  · have hk : k < ds.length := (List.getElem?_eq_some_iff.1 hd).1
    simp [hk] at hc
    subst hc
    exact h.fn.2 k d hd
  · have hk : k < ds.length := by
      have := (List.getElem?_eq_some_iff.1 hc).1
      simpa using this
    simp [hk] at hc
    subst hc
    obtain ⟨x, hx, _⟩ := h k ds[k] (List.getElem?_eq_getElem hk)
    simp [hx]

theorem CellsAt.mono {G G' : IG} (hG : G.le G') {b o : Nat} {ds : List D} (h : CellsAt G b o ds) : CellsAt G' b o ds :=
  fun k d hd => let ⟨x, hx, hr⟩ := h k d hd; ⟨x, hG _ _ _ hx, hr.mono hG⟩
theorem CellsAt.take {G : IG} {b o : Nat} {ds : List D} (h : CellsAt G b o ds) (n : Nat) : CellsAt G b o (ds.take n) := by
  intro k d hd
  rw [List.getElem?_take] at hd
  split at hd
  · exact h k d hd
  · cases hd
theorem CellsAt.drop {G : IG} {b o : Nat} {ds : List D} (h : CellsAt G b o ds) (n : Nat) : CellsAt G b (o + n) (ds.drop n) := by
  intro k d hd
  rw [List.getElem?_drop] at hd
  rw [Nat.add_assoc]
  exact h _ d hd
theorem CellsAt.append {G : IG} {b o : Nat} {ds ds' : List D} (h : CellsAt G b o ds) (h' : CellsAt G b (o + ds.length) ds') : CellsAt G b o (ds ++ ds') := by
  intro k d hd
  rw [List.getElem?_append] at hd
  split at hd
  · exact h k d hd
  · rename_i hk
    obtain ⟨x, hx, hr⟩ := h' _ d hd
    exact ⟨x, by rw [← hx]; congr 1; omega, hr⟩

theorem Rep.mkList {G : IG} {b o n c sz : Nat} {xs : List (List D)} (hn : xs.length = n) (hc : n ≤ c) (hl : ∀ ds ∈ xs, ds.length = sz) (h : CellsAt G b o xs.flatten) :
    Rep G (.slice (some ⟨b, o, none⟩) n c) (.list xs) := .list b o n c sz xs _ hn hc hl h.fn.1 h.fn.2
theorem Rep.mkOwn {G : IG} {b n c sz : Nat} {xs : List (List D)} (hn : xs.length = n) (hc : n ≤ c) (hl : ∀ ds ∈ xs, ds.length = sz) (h : CellsAt G b 0 xs.flatten) :
    Rep G (.slice (some ⟨b, 0, none⟩) n c) (.own b c xs) := by
  have h1 := h.fn.1
  have h2 := h.fn.2
  simp only [Nat.zero_add] at h1 h2
  exact .own b n c sz xs _ hn hc hl h1 h2
theorem Rep.mkIp {G : IG} {b o : Nat} {ds : List D} (h : CellsAt G b o ds) : Rep G (.pointer (some ⟨b, o, none⟩)) (.ip ds) := .ip b o ds _ h.fn.1 h.fn.2
theorem Rep.mkAgg {G : IG} {cs : List Value} {ds : List D} (h : Reps G cs ds) : Rep G (.agg cs.toArray) (.agg ds) := .agg cs ds h.1 h.2
theorem Rep.mkTup {G : IG} {cs : List Value} {ds : List D} (h : Reps G cs ds) : Rep G (.tuple cs.toArray) (.tup ds) := .tup cs ds h.1 h.2

theorem Rep.inv_v {G : IG} {x y : Value} (h : Rep G x (.v y)) : x = y := by cases h; rfl
theorem Rep.inv_nil {G : IG} {x : Value} (h : Rep G x .nil) : x = .slice none 0 0 ∨ ∃ a, x = .slice (some a) 0 0 := by
  cases h with
  | nil0 => exact .inl rfl
  | nil1 a => exact .inr ⟨a, rfl⟩
theorem Rep.inv_list {G : IG} {x : Value} {xs : List (List D)} (h : Rep G x (.list xs)) :
    ((∃ a, x = .slice a 0 0) ∧ xs = []) ∨ ∃ b o c sz, x = .slice (some ⟨b, o, none⟩) xs.length c ∧ xs.length ≤ c ∧ (∀ ds ∈ xs, ds.length = sz) ∧ CellsAt G b o xs.flatten := by
  cases h with
  | listNil => exact .inl ⟨⟨none, rfl⟩, rfl⟩
  | listE a => exact .inl ⟨⟨a, rfl⟩, rfl⟩
  | list b o n c sz xs f hn hc hl hg hr =>
    subst hn
    exact .inr ⟨b, o, c, sz, rfl, hc, hl, fun k d hd => ⟨f k, hg k d hd, hr k d hd⟩⟩
theorem Rep.inv_own {G : IG} {x : Value} {b c : Nat} {xs : List (List D)} (h : Rep G x (.own b c xs)) :
    ∃ sz, x = .slice (some ⟨b, 0, none⟩) xs.length c ∧ xs.length ≤ c ∧ (∀ ds ∈ xs, ds.length = sz) ∧ CellsAt G b 0 xs.flatten := by
  cases h with
  | own b n c sz xs f hn hc hl hg hr =>
    subst hn
    exact ⟨sz, rfl, hc, hl, fun k d hd => ⟨f k, by simpa using hg k d hd, hr k d hd⟩⟩
theorem Rep.inv_ip {G : IG} {x : Value} {ds : List D} (h : Rep G x (.ip ds)) : ∃ b o, x = .pointer (some ⟨b, o, none⟩) ∧ CellsAt G b o ds := by
  cases h with
  | ip b o ds f hg hr => exact ⟨b, o, rfl, fun k d hd => ⟨f k, hg k d hd, hr k d hd⟩⟩
theorem Rep.inv_agg {G : IG} {x : Value} {ds : List D} (h : Rep G x (.agg ds)) : ∃ cs : List Value, x = .agg cs.toArray ∧ Reps G cs ds := by
  cases h with
  | agg cs ds hn hr => exact ⟨cs, rfl, hn, hr⟩
theorem Rep.inv_gd {G : IG} {x : Value} {c : Bool} {d : D} (h : Rep G x (.gd c d)) (hc : c = true) : Rep G x d := by
  cases h with
  | gdT _ _ hr => exact hr
  | gdF => cases hc
theorem Rep.inv_tup {G : IG} {x : Value} {ds : List D} (h : Rep G x (.tup ds)) : ∃ cs : List Value, x = .tuple cs.toArray ∧ Reps G cs ds := by
  cases h with
  | tup cs ds hn hr => exact ⟨cs, rfl, hn, hr⟩

/-- What is known of a slice whatever its room. -/
def D.flat0 : D → D
  | .nil => .list []
  | .own _ _ xs => .list xs
  | d => d

theorem Rep.flat0 {G : IG} {x : Value} {d : D} (h : Rep G x d) : Rep G x d.flat0 := by
  cases h with
  | nil0 => exact .listNil
  | nil1 a => exact .listE (some a)
  | own b n c sz xs f hn hc hl hg hr => exact .list b 0 n c sz xs f hn hc hl (by simpa using hg) hr
  | v x => exact .v x
  | listNil => exact .listNil
  | listE a => exact .listE a
  | list b o n c sz xs f hn hc hl hg hr => exact .list b o n c sz xs f hn hc hl hg hr
  | ip b o ds f hg hr => exact .ip b o ds f hg hr
  | agg cs ds hn hr => exact .agg cs ds hn hr
  | tup cs ds hn hr => exact .tup cs ds hn hr
  | gdT x d hr => exact .gdT x d hr
  | gdF d => exact .gdF d

theorem D.flat0_list (xs : List (List D)) : (D.list xs).flat0 = .list xs := rfl
theorem D.flat0_own (b c : Nat) (xs : List (List D)) : (D.own b c xs).flat0 = .list xs := rfl
theorem D.flat0_nil : D.nil.flat0 = .list [] := rfl
theorem D.flat0_v (x : Value) : (D.v x).flat0 = .v x := rfl
theorem D.flat0_ip (ds : List D) : (D.ip ds).flat0 = .ip ds := rfl
theorem D.flat0_agg (ds : List D) : (D.agg ds).flat0 = .agg ds := rfl
theorem D.flat0_gd (c : Bool) (d : D) : (D.gd c d).flat0 = .gd c d := rfl
theorem D.flat0_tup (ds : List D) : (D.tup ds).flat0 = .tup ds := rfl

/-- .. of what stands in a struct too. -/
def D.flat : D → D
  | .nil => .list []
  | .own _ _ xs => .list xs
  | .agg ds => .agg (ds.map D.flat0)
  | d => d
theorem Rep.flat {G : IG} {x : Value} {d : D} (h : Rep G x d) : Rep G x d.flat := by
  cases h with
  | agg cs ds hn hr =>
    refine .agg cs _ (by simpa using hn) fun k d c hd hc => ?_
    rw [List.getElem?_map, Option.map_eq_some_iff] at hd
    obtain ⟨d0, hd0, rfl⟩ := hd
    exact (hr k d0 c hd0 hc).flat0
  | nil0 => exact .listNil
  | nil1 a => exact .listE (some a)
  | own b n c sz xs f hn hc hl hg hr => exact .list b 0 n c sz xs f hn hc hl (by simpa using hg) hr
  | v x => exact .v x
  | listNil => exact .listNil
  | listE a => exact .listE a
  | list b o n c sz xs f hn hc hl hg hr => exact .list b o n c sz xs f hn hc hl hg hr
  | ip b o ds f hg hr => exact .ip b o ds f hg hr
  | tup cs ds hn hr => exact .tup cs ds hn hr
  | gdT x d hr => exact .gdT x d hr
  | gdF d => exact .gdF d
theorem D.flat_list (xs : List (List D)) : (D.list xs).flat = .list xs := rfl
theorem D.flat_own (b c : Nat) (xs : List (List D)) : (D.own b c xs).flat = .list xs := rfl
theorem D.flat_nil : D.nil.flat = .list [] := rfl
theorem D.flat_v (x : Value) : (D.v x).flat = .v x := rfl
theorem D.flat_ip (ds : List D) : (D.ip ds).flat = .ip ds := rfl
theorem D.flat_agg (ds : List D) : (D.agg ds).flat = .agg (ds.map D.flat0) := rfl
theorem D.flat_gd (c : Bool) (d : D) : (D.gd c d).flat = .gd c d := rfl
theorem D.flat_tup (ds : List D) : (D.tup ds).flat = .tup ds := rfl

/-- A constant, as an abstract value. -/
def ofV : Value → D
  | .slice none 0 0 => .nil
  | .agg cs => .agg (cs.toList.map .v)
  | .tuple cs => .tup (cs.toList.map .v)
  | x => .v x

theorem rep_ofV (G : IG) (x : Value) : Rep G x (ofV x) := by
  unfold ofV
  split
  · exact .nil0
  · rename_i cs; exact Rep.mkAgg (cs := cs.toList) (Reps.self G _)
  · rename_i cs; exact Rep.mkTup (cs := cs.toList) (Reps.self G _)
  · exact .v x

/-! ### the heap of what is ours -/

inductive Res where
  /-- a block of cells that only we know of -/
  | cells (ds : List D) (e : TypeId)
  /-- a block whose first `n` elements are immutable, and whose room is ours -/
  | grow (e : TypeId) (n cap sz : Nat)
  /-- a map: its entries, oldest first -/
  | map (es : List (Value × D))
  /-- where a walk over a string stands -/
  | iter (s : ByteArray) (pos : Nat)

abbrev Heap := Nat → Option Res

def Heap.set (H : Heap) (b : Nat) (r : Res) : Heap := fun k => if k = b then some r else H k
def Heap.del (H : Heap) (b : Nat) : Heap := fun k => if k = b then none else H k

theorem Heap.set_at (H : Heap) (b k : Nat) (r : Res) : (H.set b r) k = if k = b then some r else H k := rfl
theorem Heap.del_at (H : Heap) (b k : Nat) : (H.del b) k = if k = b then none else H k := rfl
theorem Heap.set_same (H : Heap) (b : Nat) (r : Res) : (H.set b r) b = some r := by simp [Heap.set]
theorem Heap.set_other (H : Heap) {b k : Nat} (r : Res) (h : k ≠ b) : (H.set b r) k = H k := by simp [Heap.set, h]
theorem Heap.set_set (H : Heap) (b : Nat) (r s : Res) : (H.set b r).set b s = H.set b s := by
  funext k; simp only [Heap.set]; split <;> rfl
theorem Heap.set_comm (H : Heap) {b c : Nat} (r s : Res) (h : b ≠ c) : (H.set b r).set c s = (H.set c s).set b r := by
  funext k; simp only [Heap.set]; split <;> split <;> simp_all

def Res.holds (G : IG) (w : World) (b : Nat) : Res → Prop
  | .cells ds e => ∃ cs : List Value, w.heap[b]? = some (.cells cs.toArray e (0, 0)) ∧ Reps G cs ds ∧ (∀ c ∈ cs, c.oneCell' = true) ∧ ∀ o, G b o = none
  | .grow e n cap sz => ∃ cur : Array Value, w.heap[b]? = some (.cells cur e (0, 0)) ∧ cur.size = cap * sz ∧ n ≤ cap ∧ cap ≤ maxLen ∧ ∀ o, n * sz ≤ o → G b o = none
  | .map es => ∃ (ms : List MapEntry) (clock : Nat), w.heap[b]? = some (.map ms.toArray clock) ∧ ms.length = es.length ∧
      (∀ (k : Nat) (m : MapEntry) (e : Value × D), ms[k]? = some m → es[k]? = some e → m.key = e.1 ∧ Rep G m.val e.2) ∧ clock = ms.length ∧ ∀ (k : Nat) (m : MapEntry), ms[k]? = some m → m.born = k
  | .iter s pos => w.heap[b]? = some (.stringIter s pos)

theorem Res.holds.lt {G : IG} {w : World} {b : Nat} {r : Res} (h : r.holds G w b) : b < w.heap.size := by
  cases r with
  | cells ds e => obtain ⟨cs, h, _⟩ := h; exact (Array.getElem?_eq_some_iff.1 h).1
  | grow e n cap sz => obtain ⟨cs, h, _⟩ := h; exact (Array.getElem?_eq_some_iff.1 h).1
  | map es => obtain ⟨cs, ck, h, _⟩ := h; exact (Array.getElem?_eq_some_iff.1 h).1
  | iter s pos => exact (Array.getElem?_eq_some_iff.1 h).1

/-- The world `w` is as the abstract state says; nothing that was there in `W` has turned. -/
structure Inv (W : World) (G : IG) (H : Heap) (w : World) : Prop where
  below : Below W.heap.size W w
  imm : ∀ b o x, G b o = some x → w.cell? ⟨b, o, none⟩ = some x ∧ x.oneCell' = true
  res : ∀ b r, H b = some r → W.heap.size ≤ b ∧ r.holds G w b

theorem Inv.fresh {W : World} {G : IG} {H : Heap} {w : World} (h : Inv W G H w) {b : Nat} (hb : w.heap.size ≤ b) : H b = none := by
  cases hr : H b with
  | none => rfl
  | some r => have := (h.res b r hr).2.lt; omega
theorem Inv.gfresh {W : World} {G : IG} {H : Heap} {w : World} (h : Inv W G H w) {b : Nat} (hb : w.heap.size ≤ b) (o : Nat) : G b o = none := by
  cases hr : G b o with
  | none => rfl
  | some x => have := World.block_lt_of_cell? w _ (h.imm b o x hr).1; simp at this; omega

theorem Res.holds.same {G : IG} {w w' : World} {b : Nat} {r : Res} (h : r.holds G w b) (hb : w'.heap[b]? = w.heap[b]?) : r.holds G w' b := by
  cases r with
  | cells ds e => obtain ⟨cs, h, k⟩ := h; exact ⟨cs, hb.trans h, k⟩
  | grow e n cap sz => obtain ⟨cs, h, k⟩ := h; exact ⟨cs, hb.trans h, k⟩
  | map es => obtain ⟨cs, ck, h, k⟩ := h; exact ⟨cs, ck, hb.trans h, k⟩
  | iter s pos => exact hb.trans h

/-- A draw turns nothing. -/
theorem Inv.drew {W : World} {G : IG} {H : Heap} {w : World} (h : Inv W G H w) : Inv W G H w.drew :=
  ⟨h.below.drew, h.imm, fun b r hr => ⟨(h.res b r hr).1, (h.res b r hr).2.same rfl⟩⟩

/-- What we no longer want to know. -/
theorem Inv.weaken {W : World} {G : IG} {H H' : Heap} {w : World} (h : Inv W G H w) (hH : ∀ b r, H' b = some r → H b = some r) : Inv W G H' w :=
  ⟨h.below, h.imm, fun b r hr => h.res b r (hH b r hr)⟩

/-- A new block. -/
theorem Inv.alloc {W : World} {G : IG} {H : Heap} {w : World} (h : Inv W G H w) (o : Obj) : Inv W G H (w.alloc o) :=
  ⟨h.below.alloc h.below.size o, fun b p x hx => ⟨by
      rw [World.cell?_alloc_lt]
      · exact (h.imm b p x hx).1
      · exact World.block_lt_of_cell? w _ (h.imm b p x hx).1, (h.imm b p x hx).2⟩,
    fun b r hr => ⟨(h.res b r hr).1, (h.res b r hr).2.same (Below.heap_alloc w o _ (h.res b r hr).2.lt)⟩⟩

theorem Inv.add {W : World} {G : IG} {H : Heap} {w : World} (h : Inv W G H w) {b : Nat} {r : Res} (hb : W.heap.size ≤ b) (hr : r.holds G w b) : Inv W G (H.set b r) w :=
  ⟨h.below, h.imm, fun k r' hk => by
    rw [Heap.set_at] at hk
    split at hk
    · rename_i e; subst e; cases hk; exact ⟨hb, hr⟩
    · exact h.res k r' hk⟩

theorem Inv.allocCells {W : World} {G : IG} {H : Heap} {w : World} (h : Inv W G H w) (cs : List Value) (ds : List D) (e : TypeId) (hr : Reps G cs ds)
    (h1 : ∀ c ∈ cs, c.oneCell' = true) : Inv W G (H.set w.heap.size (.cells ds e)) (w.alloc (.cells cs.toArray e)) :=
  (h.alloc _).add h.below.size ⟨cs, heap_alloc_new w _, hr, h1, fun o => h.gfresh (Nat.le_refl _) o⟩

/-- Cells of a block of ours, written. -/
theorem Inv.setRow {W : World} {G : IG} {H : Heap} {w : World} (h : Inv W G H w) {b : Nat} {ds ds' : List D} {e : TypeId} (hb : H b = some (.cells ds e)) (cs : List Value)
    (hr : Reps G cs ds') (h1 : ∀ c ∈ cs, c.oneCell' = true) : Inv W G (H.set b (.cells ds' e)) (w.setRow b cs.toArray) := by
  obtain ⟨hWb, cur, hcur, _, _, hG⟩ := h.res b _ hb
  have hset : (w.setRow b cs.toArray).heap[b]? = some (.cells cs.toArray e (0, 0)) := setRow_heap w b _ _ e _ hcur
  refine ⟨h.below.trans ⟨rfl, rfl, rfl, by simp, fun k hk => setRow_other w b k _ (by omega)⟩, fun p o x hx => ⟨?_, (h.imm p o x hx).2⟩, fun k r hk => ?_⟩
  · have hpb : p ≠ b := fun e => by subst e; rw [hG o] at hx; cases hx
    rw [cell_setRow_other w b _ _ hpb]
    exact (h.imm p o x hx).1
  · rw [Heap.set_at] at hk
    split at hk
    · rename_i e; subst e; cases hk; exact ⟨hWb, cs, hset, hr, h1, hG⟩
    · rename_i hkb
      exact ⟨(h.res k r hk).1, (h.res k r hk).2.same (setRow_other w b k _ hkb)⟩

/-- The immutable part grows by cells that are there and that nobody owns. -/
theorem Res.holds.gmono {G G' : IG} {w : World} {b : Nat} {r : Res} (h : r.holds G w b) (hG : G.le G') (hb : ∀ o, G' b o = G b o) : r.holds G' w b := by
  cases r with
  | cells ds e => obtain ⟨cs, h, hr, h1, hg⟩ := h; exact ⟨cs, h, hr.mono hG, h1, fun o => (hb o).trans (hg o)⟩
  | grow e n cap sz => obtain ⟨cs, h, h1, h2, h3, hg⟩ := h; exact ⟨cs, h, h1, h2, h3, fun o ho => (hb o).trans (hg o ho)⟩
  | map es => obtain ⟨ms, ck, h, hl, hr, hs⟩ := h; exact ⟨ms, ck, h, hl, fun k m e hm he => ⟨(hr k m e hm he).1, (hr k m e hm he).2.mono hG⟩, hs⟩
  | iter s pos => exact h

/-- G with the cells of a block from o on. -/
def IG.add (G : IG) (b o : Nat) (cs : List Value) : IG := fun k p => if k = b ∧ o ≤ p ∧ p < o + cs.length then cs[p - o]? else G k p

theorem IG.add_other (G : IG) {b k : Nat} (o : Nat) (cs : List Value) (h : k ≠ b) (p : Nat) : (G.add b o cs) k p = G k p := by simp [IG.add, h]
theorem IG.add_at (G : IG) (b o : Nat) (cs : List Value) {k : Nat} {c : Value} (h : cs[k]? = some c) : (G.add b o cs) b (o + k) = some c := by
  have hk : k < cs.length := (List.getElem?_eq_some_iff.1 h).1
  simp only [IG.add]
  rw [if_pos ⟨trivial, by omega, by omega⟩, Nat.add_sub_cancel_left, h]
theorem IG.le_add (G : IG) (b o : Nat) (cs : List Value) (h : ∀ p, o ≤ p → G b p = none) : G.le (G.add b o cs) := by
  intro k p x hx
  unfold IG.add
  split
  · rename_i hh
    obtain ⟨rfl, h1, h2⟩ := hh
    rw [h p h1] at hx; cases hx
  · exact hx

end Go.Sn
namespace Go.Sn
open Go Go.RowKit
set_option linter.unusedVariables false
set_option linter.unusedSimpArgs false

/-! ### types -/

def szT (P : Program) (t : TypeId) : Option Nat := (P.info? t).map (·.size)
def bytesT (P : Program) (t : TypeId) : Option Nat := (P.info? t).map (·.bytes)
def aggT (P : Program) (t : TypeId) : Option Bool := (P.underlying t).map fun | .struct _ => true | .array _ _ => true | _ => false
def fieldT (P : Program) (s f : Nat) : Option Field :=
  match P.underlying s with
  | some (.struct fields) => fields[f]?
  | _ => none
/-- A field's place: not of a type without cells. -/
def offT (P : Program) (s f : Nat) : Option Nat :=
  match fieldT P s f with
  | some d => match szT P d.type with
    | some n => if n = 0 then none else some d.offset
    | none => none
  | none => none
/-- A field's type and place. -/
def ftoT (P : Program) (s f : Nat) : Option (TypeId × Nat) := (fieldT P s f).map fun d => (d.type, d.offset)
/-- The zero value's cells. -/
def zeroT (P : Program) (t : TypeId) : Option (List D) :=
  match P.info? t with
  | some i => match i.zero with
    | some z => if z.cells.toList.all Value.oneCell' then some (z.cells.toList.map ofV) else none
    | none => none
  | none => none

section
variable {P : Program}

theorem run_szT {t n : Nat} (h : szT P t = some n) (w : World) : (sizeOf t).run P w = .ok n w := by
  unfold szT at h
  cases hi : P.info? t with
  | none => simp [hi] at h
  | some i => simp [hi] at h; simp [sizeOf, typeInfo, hi, h]

theorem run_aggT {t : Nat} {b : Bool} (h : aggT P t = some b) (w : World) : (isAgg t).run P w = .ok b w := by
  unfold aggT at h
  cases hi : P.underlying t with
  | none => simp [hi] at h
  | some d =>
    simp [hi] at h
    subst h
    cases d <;> simp [isAgg, run_underlying hi]

/-! ### loads -/

def loadA (P : Program) (H : Heap) (t : TypeId) : D → Option (Prop × D)
  | .v (.pointer (some ⟨b, o, none⟩)) =>
    match H b with
    | some (.cells ds _) =>
      match aggT P t with
      | some true => match szT P t with
        | some n => some (o + n ≤ ds.length, .agg ((ds.drop o).take n))
        | none => none
      | some false => some (o < ds.length, ds.getD o default)
      | none => none
    | _ => none
  | .ip ds =>
    match aggT P t with
    | some true => match szT P t with
      | some n => some (n ≤ ds.length, .agg (ds.take n))
      | none => none
    | some false => some (0 < ds.length, ds.getD 0 default)
    | none => none
  | _ => none

theorem run_loadVar_agg {t n : Nat} (ha : aggT P t = some true) (hs : szT P t = some n) {w : World} {a : Addr} {cs : List Value} (hl : cs.length = n)
    (h : ∀ j v, cs[j]? = some v → w.cell? (a.add j) = some v) : (loadVar t a).run P w = .ok (.agg cs.toArray) w := by
  subst hl
  simp [loadVar, run_aggT ha, run_szT hs, run_loadCells_list w a cs h]

theorem run_loadVar_one {t : Nat} (ha : aggT P t = some false) {w : World} {a : Addr} {x : Value} (h : w.cell? a = some x) :
    (loadVar t a).run P w = .ok x w := by
  simp [loadVar, run_aggT ha, h]

variable {W : World} {G : IG} {H : Heap} {w : World}

theorem Inv.cell {b o : Nat} {ds : List D} {e : TypeId} (h : Inv W G H w) (hb : H b = some (.cells ds e)) {d : D} (hd : ds[o]? = some d) :
    ∃ x, w.cell? ⟨b, o, none⟩ = some x ∧ Rep G x d := by
  obtain ⟨_, cs, hcs, hr, _, _⟩ := h.res b _ hb
  obtain ⟨c, hc, hrc⟩ := hr.get hd
  exact ⟨c, by rw [cell_of_row w b o _ e _ hcs]; simpa using hc, hrc⟩

theorem loadA_ok {t : Nat} {d r : D} {p : Prop} {x : Value} (hl : loadA P H t d = some (p, r)) (hp : p) (h : Inv W G H w) (hx : Rep G x d) :
    ∃ v, (Instr.loadAt t x).run P w = .ok v w ∧ Rep G v r := by
  unfold loadA at hl
  split at hl
  · rename_i b o
    cases hx.inv_v
    split at hl
    · rename_i ds e hb
      obtain ⟨_, cs, hcs, hr, _, _⟩ := h.res b _ hb
      split at hl
      · rename_i ha
        split at hl
        · rename_i n hs
          simp at hl
          obtain ⟨hp', rfl⟩ := hl
          rw [← hp'] at hp
          refine ⟨.agg ((cs.drop o).take n).toArray, ?_, Rep.mkAgg ((hr.drop o).take n)⟩
          simp only [Instr.loadAt, Instr.sureAddr, Sem.run_bind, Sem.run_pure, Result.andThen_ok]
          refine run_loadVar_agg ha hs ?_ fun j v hv => ?_
          · have := hr.1; simp; omega
          · rw [Addr.add_lit, cell_of_row w b _ _ e _ hcs]
            rw [List.getElem?_take] at hv
            split at hv
            · rw [List.getElem?_drop] at hv; simpa using hv
            · cases hv
        · cases hl
      · rename_i ha
        simp at hl
        obtain ⟨hp', rfl⟩ := hl
        rw [← hp'] at hp
        have hd : ds[o]? = some (ds.getD o default) := by simp [List.getD, List.getElem?_eq_getElem hp]
        obtain ⟨c, hc, hrc⟩ := hr.get hd
        refine ⟨c, ?_, by simpa [List.getD] using hrc⟩
        simp only [Instr.loadAt, Instr.sureAddr, Sem.run_bind, Sem.run_pure, Result.andThen_ok]
        refine run_loadVar_one ha ?_
        rw [cell_of_row w b o _ e _ hcs]; simpa using hc
      · cases hl
    · cases hl
  · rename_i ds
    obtain ⟨b, o, rfl, hc⟩ := hx.inv_ip
    split at hl
    · rename_i ha
      split at hl
      · rename_i n hs
        simp at hl
        obtain ⟨hp', rfl⟩ := hl
        rw [← hp'] at hp
        obtain ⟨cs, hr, hcs⟩ := (hc.take n).reps
        refine ⟨.agg cs.toArray, ?_, Rep.mkAgg hr⟩
        simp only [Instr.loadAt, Instr.sureAddr, Sem.run_bind, Sem.run_pure, Result.andThen_ok]
        refine run_loadVar_agg ha hs ?_ fun j v hv => ?_
        · have := hr.1; simp at this; omega
        · rw [Addr.add_lit]; exact (h.imm b _ v (hcs j v hv)).1
      · cases hl
    · rename_i ha
      simp at hl
      obtain ⟨hp', rfl⟩ := hl
      rw [← hp'] at hp
      have hd : ds[0]? = some (ds.getD 0 default) := by simp [List.getD, List.getElem?_eq_getElem hp]
      obtain ⟨c, hc', hrc⟩ := hc 0 _ hd
      refine ⟨c, ?_, by simpa [List.getD] using hrc⟩
      simp only [Instr.loadAt, Instr.sureAddr, Sem.run_bind, Sem.run_pure, Result.andThen_ok]
      exact run_loadVar_one ha (h.imm b _ c hc').1
    · cases hl
  · cases hl

/-! ### fields, elements -/

def fieldAddrA (P : Program) (s f : Nat) : D → Option (Prop × D)
  | .v (.pointer (some ⟨b, o, none⟩)) => match offT P s f with
    | some n => some (True, .v (.pointer (some ⟨b, o + n, none⟩)))
    | none => none
  | .ip ds => match offT P s f with
    | some n => some (True, .ip (ds.drop n))
    | none => none
  | _ => none

theorem offT_run {s f n : Nat} (h : offT P s f = some n) (w : World) (b o : Nat) :
    (Instr.fieldAt s (.pointer (some ⟨b, o, none⟩)) f).run P w = .ok (.pointer (some ⟨b, o + n, none⟩)) w := by
  unfold offT fieldT at h
  split at h
  · rename_i d hd
    split at hd
    · rename_i fields hu
      split at h
      · rename_i m hm
        split at h
        · cases h
        · rename_i hm0
          simp at h
          subst h
          simp [Instr.fieldAt, run_underlying hu, hd, Instr.sureAddr, fieldPlace, run_szT hm, hm0, Addr.add_lit]
      · cases h
    · cases hd
  · cases h

theorem fieldAddrA_ok {s f : Nat} {d r : D} {p : Prop} {x : Value} (hl : fieldAddrA P s f d = some (p, r)) (hx : Rep G x d) :
    ∃ v, (Instr.fieldAt s x f).run P w = .ok v w ∧ Rep G v r := by
  unfold fieldAddrA at hl
  split at hl
  · cases hx.inv_v
    split at hl
    · rename_i n hn
      simp at hl
      obtain ⟨_, rfl⟩ := hl
      exact ⟨_, offT_run hn w _ _, .v _⟩
    · cases hl
  · obtain ⟨b, o, rfl, hc⟩ := hx.inv_ip
    split at hl
    · rename_i n hn
      simp at hl
      obtain ⟨_, rfl⟩ := hl
      exact ⟨_, offT_run hn w _ _, Rep.mkIp (hc.drop n)⟩
    · cases hl
  · cases hl

/-- A part of an aggregate. -/
def partA (P : Program) (t : TypeId) (ds : List D) (off : Nat) : Option (Prop × D) :=
  match aggT P t with
  | some true => match szT P t with
    | some n => some (off + n ≤ ds.length, .agg ((ds.drop off).take n))
    | none => none
  | some false => some (off < ds.length, ds.getD off default)
  | none => none

theorem partA_ok {t off : Nat} {ds : List D} {r : D} {p : Prop} {cs : List Value} (hl : partA P t ds off = some (p, r)) (hp : p) (hx : Reps G cs ds) :
    ∃ v, (part t cs.toArray off).run P w = .ok v w ∧ Rep G v r := by
  unfold partA at hl
  split at hl
  · rename_i ha
    split at hl
    · rename_i n hn
      simp at hl
      obtain ⟨hp', rfl⟩ := hl
      refine ⟨.agg ((cs.drop off).take n).toArray, ?_, Rep.mkAgg ((hx.drop off).take n)⟩
      simp [part, run_aggT ha, run_szT hn]
    · cases hl
  · rename_i ha
    simp at hl
    obtain ⟨hp', rfl⟩ := hl
    rw [← hp'] at hp
    have hd : ds[off]? = some (ds.getD off default) := by simp [List.getD, List.getElem?_eq_getElem hp]
    obtain ⟨c, hc, hrc⟩ := hx.get hd
    exact ⟨c, by simp [part, run_aggT ha, hc], by simpa [List.getD] using hrc⟩
  · cases hl

def fieldA (P : Program) (s f : Nat) : D → Option (Prop × D)
  | .agg ds => match ftoT P s f with
    | some (ty, off) => partA P ty ds off
    | none => none
  | _ => none

theorem fieldA_ok {s f : Nat} {d r : D} {p : Prop} {x : Value} (hl : fieldA P s f d = some (p, r)) (hp : p) (hx : Rep G x d) :
    ∃ v, (Instr.field s x f).run P w = .ok v w ∧ Rep G v r := by
  unfold fieldA at hl
  split at hl
  · obtain ⟨cs, rfl, hr⟩ := hx.inv_agg
    split at hl
    · rename_i ty off hd
      unfold ftoT fieldT at hd
      split at hd
      · rename_i fields hu
        obtain ⟨v, hv, hrv⟩ := partA_ok (w := w) hl hp hr
        cases hf : fields[f]? with
        | none => simp [hf] at hd
        | some d =>
          simp [hf] at hd
          obtain ⟨rfl, rfl⟩ := hd
          exact ⟨v, by simp [Instr.field, run_underlying hu, hf, asAgg, hv], hrv⟩
      · cases hd
    · cases hl
  · cases hl

/-- The elements of a slice that reads as a list. -/
def D.elems : D → Option (List (List D))
  | .list xs => some xs
  | .own _ _ xs => some xs
  | .nil => some []
  | _ => none

theorem Rep.inv_elems {x : Value} {d : D} {xs : List (List D)} (h : Rep G x d) (hd : d.elems = some xs) :
    ((∃ a, x = .slice a 0 0) ∧ xs = []) ∨ ∃ b o c sz, x = .slice (some ⟨b, o, none⟩) xs.length c ∧ xs.length ≤ c ∧ (∀ ds ∈ xs, ds.length = sz) ∧ CellsAt G b o xs.flatten := by
  cases d <;> simp [D.elems] at hd
  · subst hd
    exact (h.flat).inv_list
  · subst hd; exact h.inv_list
  · subst hd; exact (h.flat).inv_list

theorem flatten_drop_take {α : Type} {sz : Nat} : ∀ (xs : List (List α)) (i : Nat), (∀ ds ∈ xs, ds.length = sz) → i < xs.length → (xs.flatten.drop (i * sz)).take sz = xs.getD i []
  | [], i, _, hi => by simp at hi
  | x :: xs, 0, hl, _ => by
    have := hl x (by simp)
    simp [this]
  | x :: xs, i + 1, hl, hi => by
    have h0 := hl x (by simp)
    rw [List.flatten_cons, show (i + 1) * sz = x.length + i * sz by rw [h0, Nat.add_mul]; omega, ← List.drop_drop, List.drop_left]
    rw [flatten_drop_take xs i (fun ds hd => hl ds (by simp [hd])) (by simpa using hi)]
    simp [List.getD]

theorem CellsAt.elem {b o sz : Nat} {xs : List (List D)} (h : CellsAt G b o xs.flatten) (hl : ∀ ds ∈ xs, ds.length = sz) {i : Nat} (hi : i < xs.length) :
    CellsAt G b (o + i * sz) (xs.getD i []) := by
  rw [← flatten_drop_take xs i hl hi]
  exact (h.drop _).take _

def indexAddrA (P : Program) (t : TypeId) (x i : D) : Option (Prop × D) :=
  match i with
  | .v (.int _ n) =>
    match P.underlying t with
    | some (.slice e) =>
      match szT P e with
      | some sz =>
        match x with
        | .v (.slice (some ⟨b, o, none⟩) len _) => some (0 ≤ n ∧ n < len, .v (.pointer (some ⟨b, o + n.toNat * sz, none⟩)))
        | x => match x.elems with
          | some xs => some ((0 ≤ n ∧ n < xs.length) ∧ (xs.getD n.toNat []).length = sz, .ip (xs.getD n.toNat []))
          | none => none
      | none => none
    | some (.array len e) =>
      match szT P e with
      | some sz =>
        match x with
        | .v (.pointer (some ⟨b, o, none⟩)) => some (0 ≤ n ∧ n < len, .v (.pointer (some ⟨b, o + n.toNat * sz, none⟩)))
        | .ip ds => some (0 ≤ n ∧ n < len, .ip (ds.drop (n.toNat * sz)))
        | _ => none
      | none => none
    | _ => none
  | _ => none

theorem indexAddrA_ok {t : Nat} {d i r : D} {p : Prop} {x y : Value} (hl : indexAddrA P t d i = some (p, r)) (hp : p) (hx : Rep G x d) (hy : Rep G y i) :
    ∃ v, (Instr.indexAt t x y).run P w = .ok v w ∧ Rep G v r := by
  unfold indexAddrA at hl
  split at hl
  · rename_i k n
    cases hy.inv_v
    split at hl
    · rename_i e hu
      split at hl
      · rename_i sz hs
        split at hl
        · rename_i b o len c
          cases hx.inv_v
          simp at hl
          obtain ⟨hp', rfl⟩ := hl
          rw [← hp'] at hp
          refine ⟨_, ?_, .v _⟩
          simp [Instr.indexAt, asIntOf, run_underlying hu, run_szT hs, hp, Addr.add_lit]
        · split at hl
          · rename_i xs hxs
            simp at hl
            obtain ⟨hp', rfl⟩ := hl
            rw [← hp'] at hp
            obtain ⟨⟨h0, h1⟩, h2⟩ := hp
            rcases hx.inv_elems hxs with ⟨⟨ax, rfl⟩, rfl⟩ | ⟨b, o, c, sz', rfl, hc, hsz, hcells⟩
            · simp at h1; omega
            · have hi : n.toNat < xs.length := by omega
              have hsz' : sz' = sz := by
                rw [← h2]
                have hm : xs.getD n.toNat [] ∈ xs := by
                  simp [List.getD, List.getElem?_eq_getElem hi]
                have := hsz _ hm
                simp [List.getD] at this
                simp [this]
              subst hsz'
              refine ⟨.pointer (some ⟨b, o + n.toNat * sz', none⟩), ?_, ?_⟩
              · simp [Instr.indexAt, asIntOf, run_underlying hu, run_szT hs, h0, h1, Addr.add_lit]
              · have := Rep.mkIp (hcells.elem hsz hi)
                simpa [List.getD] using this
          · cases hl
      · cases hl
    · rename_i len e hu
      split at hl
      · rename_i sz hs
        split at hl
        · cases hx.inv_v
          simp at hl
          obtain ⟨hp', rfl⟩ := hl
          rw [← hp'] at hp
          refine ⟨_, ?_, .v _⟩
          simp [Instr.indexAt, asIntOf, run_underlying hu, run_szT hs, Instr.sureAddr, hp, Addr.add_lit]
        · obtain ⟨b, o, rfl, hc⟩ := hx.inv_ip
          simp at hl
          obtain ⟨hp', rfl⟩ := hl
          rw [← hp'] at hp
          refine ⟨_, ?_, Rep.mkIp (hc.drop (n.toNat * sz))⟩
          simp [Instr.indexAt, asIntOf, run_underlying hu, run_szT hs, Instr.sureAddr, hp, Addr.add_lit]
        · cases hl
      · cases hl
    · cases hl
  · cases hl

def indexA (P : Program) (t : TypeId) (x i : D) : Option (Prop × D) :=
  match i with
  | .v (.int _ n) =>
    match P.underlying t, x with
    | some .string, .v (.string s) => some (0 ≤ n ∧ n < s.size, .v (.int .u8 (s.data.toList.getD n.toNat 0).toNat))
    | _, _ => none
  | _ => none

theorem indexA_ok {t : Nat} {d i r : D} {p : Prop} {x y : Value} (hl : indexA P t d i = some (p, r)) (hp : p) (hx : Rep G x d) (hy : Rep G y i) :
    ∃ v, (Instr.index t x y).run P w = .ok v w ∧ Rep G v r := by
  unfold indexA at hl
  split at hl
  · rename_i k n
    cases hy.inv_v
    split at hl
    · rename_i s hu
      cases hx.inv_v
      simp at hl
      obtain ⟨hp', rfl⟩ := hl
      rw [← hp'] at hp
      obtain ⟨h0, h1⟩ := hp
      have hi : n.toNat < s.size := by omega
      refine ⟨_, ?_, .v _⟩
      have hi' : n.toNat < s.data.size := hi
      simp [Instr.index, asIntOf, run_underlying hu, h0, hi, List.getD, Array.getElem?_eq_getElem hi']
      rfl
    · cases hl
  · cases hl
/-! ### slices of slices and strings -/

/-- The two bounds of `x[lo:hi]`, of a thing of n elements. -/
def boundA (n : Nat) : Option D → Option D → Option (Prop × Nat × Nat)
  | none, none => some (True, 0, n)
  | some (.v (.int _ l)), none => some (0 ≤ l ∧ l ≤ n, l.toNat, n)
  | none, some (.v (.int _ h)) => some (0 ≤ h ∧ h ≤ n, 0, h.toNat)
  | some (.v (.int _ l)), some (.v (.int _ h)) => some (0 ≤ l ∧ l ≤ h ∧ h ≤ n, l.toNat, h.toNat)
  | _, _ => none

def sliceA (P : Program) (t : TypeId) (x : D) (lo hi mx : Option D) : Option (Prop × D) :=
  match P.underlying t with
  | some .string =>
    match x, mx with
    | .v (.string s), none => match boundA s.size lo hi with
      | some (p, l, h) => some (p, .v (.string (s.extract l h)))
      | none => none
    | _, _ => none
  | some (.slice e) =>
    match szT P e with
    | some sz =>
      match x, mx with
      | x, none => match x with
        | .v (.slice (some ⟨b, o, none⟩) len c) => match boundA len lo hi with
          | some (p, l, h) => some (p ∧ l < c ∧ len ≤ c, .v (.slice (some ⟨b, o + l * sz, none⟩) (h - l) (c - l)))
          | none => none
        | x => match x.elems with
          | some xs => match boundA xs.length lo hi with
            | some (p, l, h) => some (p ∧ (∀ ds ∈ xs, ds.length = sz), .list ((xs.take h).drop l))
            | none => none
          | none => none
      | x, some (.v (.int _ m)) => match x.elems, lo, hi with
        | some xs, none, some (.v (.int _ h)) => some (h = 0 ∧ m = 0, .nil)
        | _, _, _ => none
      | _, _ => none
    | none => none
  | _ => none

/-- What the bounds of the model come to. -/
def RepO (G : IG) : Option Value → Option D → Prop
  | none, none => True
  | some x, some d => Rep G x d
  | _, _ => False

theorem boundA_ok {n cap : Nat} (isS : Bool) (hn : n ≤ cap) {lo hi : Option D} {vlo vhi : Option Value} {p : Prop} {l h : Nat} (hl : boundA n lo hi = some (p, l, h)) (hp : p)
    (h1 : RepO G vlo lo) (h2 : RepO G vhi hi) : (Instr.sliceBounds isS n cap vlo vhi none).run P w = .ok (l, h, cap) w ∧ l ≤ h ∧ h ≤ n := by
  unfold boundA at hl
  split at hl
  · cases vlo <;> cases vhi <;> simp [RepO] at h1 h2
    simp at hl
    obtain ⟨hp', rfl, rfl⟩ := hl
    simp [Instr.sliceBounds]
  · rename_i k l'
    cases vlo <;> cases vhi <;> simp [RepO] at h1 h2
    cases h1.inv_v
    simp at hl
    obtain ⟨hp', rfl, rfl⟩ := hl
    rw [← hp'] at hp
    refine ⟨by simp [Instr.sliceBounds, Instr.sliceBound, asIntOf, hp], by omega, by omega⟩
  · rename_i k h'
    cases vlo <;> cases vhi <;> simp [RepO] at h1 h2
    cases h2.inv_v
    simp at hl
    obtain ⟨hp', rfl, rfl⟩ := hl
    rw [← hp'] at hp
    have hc : h' ≤ cap := by omega
    refine ⟨by simp [Instr.sliceBounds, Instr.sliceBound, asIntOf, hp, hc], by omega, by omega⟩
  · rename_i k l' k' h'
    cases vlo <;> cases vhi <;> simp [RepO] at h1 h2
    cases h1.inv_v
    cases h2.inv_v
    simp at hl
    obtain ⟨hp', rfl, rfl⟩ := hl
    rw [← hp'] at hp
    obtain ⟨ha, hb, hd⟩ := hp
    have hc : h' ≤ cap := by omega
    have h0 : 0 ≤ h' := by omega
    have hm : max h' 0 = h' := by omega
    refine ⟨by simp [Instr.sliceBounds, Instr.sliceBound, asIntOf, ha, hb, hc, h0, hm], by omega, by omega⟩
  · cases hl

theorem drop_take_flatten {α : Type} {sz : Nat} (xs : List (List α)) (hl : ∀ ds ∈ xs, ds.length = sz) : ∀ (l : Nat), l ≤ xs.length → (xs.drop l).flatten = xs.flatten.drop (l * sz) := by
  induction xs with
  | nil => simp
  | cons x xs ih =>
    intro l hl'
    cases l with
    | zero => simp
    | succ l =>
      have h0 := hl x (by simp)
      rw [List.drop_succ_cons, ih (fun ds hd => hl ds (by simp [hd])) l (by simpa using hl')]
      rw [List.flatten_cons, show (l + 1) * sz = x.length + l * sz by rw [h0, Nat.add_mul]; omega, ← List.drop_drop, List.drop_left]

theorem take_flatten_pre {α : Type} (xs : List (List α)) (h : Nat) : ∃ k, (xs.take h).flatten = xs.flatten.take k := by
  refine ⟨(xs.take h).flatten.length, ?_⟩
  conv => rhs; rw [← List.take_append_drop h xs, List.flatten_append]
  simp

theorem sliceA_ok {t : Nat} {d r : D} {lo hi mx : Option D} {p : Prop} {x : Value} {vlo vhi vmx : Option Value} (hl : sliceA P t d lo hi mx = some (p, r)) (hp : p) (hx : Rep G x d)
    (h1 : RepO G vlo lo) (h2 : RepO G vhi hi) (h3 : RepO G vmx mx) :
    ∃ v, (Instr.sliceAt t x vlo vhi vmx).run P w = .ok v w ∧ Rep G v r := by
  unfold sliceA at hl
  split at hl
  · rename_i hu
    split at hl
    · cases hx.inv_v
      cases vmx <;> simp [RepO] at h3
      split at hl
      · rename_i s p' l h hb
        simp at hl
        obtain ⟨hp', rfl⟩ := hl
        obtain ⟨hrun, _, _⟩ := boundA_ok (P := P) (w := w) false (Nat.le_refl _) hb (by rw [hp']; exact hp) h1 h2
        exact ⟨_, by simp [Instr.sliceAt, Instr.slice, run_underlying hu, hrun], .v _⟩
      · cases hl
    · cases hl
  · rename_i e hu
    split at hl
    · rename_i sz hs
      split at hl
      · cases vmx <;> simp [RepO] at h3
        split at hl
        · rename_i b o len c
          cases hx.inv_v
          split at hl
          · rename_i p' l h hb
            simp at hl
            obtain ⟨hp', rfl⟩ := hl
            rw [← hp'] at hp
            obtain ⟨hrun, _, _⟩ := boundA_ok (P := P) (w := w) true hp.2.2 hb hp.1 h1 h2
            have hne : c ≠ l := by omega
            exact ⟨_, by simp [Instr.sliceAt, Instr.slice, run_underlying hu, hrun, run_szT hs, hne, Addr.add_lit], .v _⟩
          · cases hl
        · split at hl
          · rename_i xs hxs
            split at hl
            · rename_i p' l h hb
              simp at hl
              obtain ⟨hp', rfl⟩ := hl
              rw [← hp'] at hp
              rcases hx.inv_elems hxs with ⟨⟨ax, rfl⟩, rfl⟩ | ⟨b, o, c, sz', rfl, hc, hsz, hcells⟩
              · obtain ⟨hrun, h4, h5⟩ := boundA_ok (P := P) (w := w) true (Nat.le_refl _) hb hp.1 h1 h2
                simp at h5
                subst h5
                obtain rfl : l = 0 := by omega
                simp at hrun
                refine ⟨.slice ax 0 0, ?_, by simpa using Rep.listE ax⟩
                cases ax <;> simp [Instr.sliceAt, Instr.slice, run_underlying hu, hrun, run_szT hs]
              · obtain ⟨hrun, h4, h5⟩ := boundA_ok (P := P) (w := w) true hc hb hp.1 h1 h2
                have hcl : CellsAt G b (o + l * sz) ((xs.take h).drop l).flatten := by
                  rw [drop_take_flatten (sz := sz) _ (fun ds hd => hp.2 ds (List.mem_of_mem_take hd)) l (by simp; omega)]
                  obtain ⟨k, hk⟩ := take_flatten_pre xs h
                  rw [hk]
                  exact (hcells.take k).drop _
                have hlen : ((xs.take h).drop l).length = h - l := by simp; omega
                have hsz2 : ∀ ds ∈ (xs.take h).drop l, ds.length = sz := fun ds hd => hp.2 ds (List.mem_of_mem_take (List.mem_of_mem_drop hd))
                by_cases hcl0 : c = l
                · have : h = l := by omega
                  subst this
                  subst hcl0
                  refine ⟨.slice (some ⟨b, o, none⟩) 0 0, by simp [Instr.sliceAt, Instr.slice, run_underlying hu, hrun, run_szT hs], ?_⟩
                  have : (xs.take c).drop c = [] := by simp
                  rw [this]
                  exact (Rep.nil1 ⟨b, o, none⟩).flat
                · refine ⟨.slice (some ⟨b, o + l * sz, none⟩) (h - l) (c - l), by simp [Instr.sliceAt, Instr.slice, run_underlying hu, hrun, run_szT hs, hcl0, Addr.add_lit], Rep.mkList hlen (by omega) hsz2 hcl⟩
            · cases hl
          · cases hl
      · split at hl
        · rename_i m xs lo' hi' k h hxs
          cases vlo <;> cases vhi <;> cases vmx <;> simp [RepO] at h1 h2 h3
          cases h2.inv_v
          cases h3.inv_v
          simp at hl
          obtain ⟨hp', rfl⟩ := hl
          rw [← hp'] at hp
          obtain ⟨rfl, rfl⟩ := hp
          rcases hx.inv_elems hxs with ⟨⟨ax, rfl⟩, rfl⟩ | ⟨b, o, c, sz', rfl, hc, hsz, hcells⟩
          · refine ⟨.slice ax 0 0, ?_, by cases ax; exact .nil0; exact .nil1 _⟩
            cases ax <;> simp [Instr.sliceAt, Instr.slice, Instr.sliceBounds, Instr.sliceBound, asIntOf, run_underlying hu, run_szT hs]
          · exact ⟨.slice (some ⟨b, o, none⟩) 0 0, by simp [Instr.sliceAt, Instr.slice, Instr.sliceBounds, Instr.sliceBound, asIntOf, run_underlying hu, run_szT hs], .nil1 _⟩
        · cases hl
      · cases hl
    · cases hl
  · cases hl
end
end Go.Sn
namespace Go.Sn
open Go Go.RowKit
set_option linter.unusedVariables false
set_option linter.unusedSimpArgs false

/-! ### operators -/

/-- Of two whole numbers of one kind. -/
def intA (op : BinOp) (k : IntKind) (a b : Int) : Option (Prop × D) :=
  match op with
  | .add => some (True, .v (.int k (k.wrap (a + b))))
  | .sub => some (True, .v (.int k (k.wrap (a - b))))
  | .mul => some (True, .v (.int k (k.wrap (a * b))))
  | .quo => some (b ≠ 0, .v (.int k (k.wrap (a.tdiv b))))
  | .rem => some (b ≠ 0, .v (.int k (a.tmod b)))
  | .and => some (True, .v (.int k (k.wrap ((BitVec.ofInt k.bits a &&& BitVec.ofInt k.bits b).toNat : Int))))
  | .or => some (True, .v (.int k (k.wrap ((BitVec.ofInt k.bits a ||| BitVec.ofInt k.bits b).toNat : Int))))
  | .xor => some (True, .v (.int k (k.wrap ((BitVec.ofInt k.bits a ^^^ BitVec.ofInt k.bits b).toNat : Int))))
  | .andNot => some (True, .v (.int k (k.wrap ((BitVec.ofInt k.bits a &&& ~~~ (BitVec.ofInt k.bits b)).toNat : Int))))
  | .eql => some (True, .v (.bool (decide (a = b))))
  | .neq => some (True, .v (.bool (!decide (a = b))))
  | .lss => some (True, .v (.bool (decide (a < b))))
  | .leq => some (True, .v (.bool (decide (a ≤ b))))
  | .gtr => some (True, .v (.bool (decide (b < a))))
  | .geq => some (True, .v (.bool (decide (b ≤ a))))
  | _ => none

def shiftA (op : BinOp) (k : IntKind) (a b : Int) : Option (Prop × D) :=
  match op with
  | .shl => some (0 ≤ b, .v (.int k (k.wrap (a * 2 ^ (min b.toNat k.bits)))))
  | .shr => some (0 ≤ b, .v (.int k (a.fdiv (2 ^ (min b.toNat k.bits)))))
  | _ => none

def strA (op : BinOp) (a b : ByteArray) : Option (Prop × D) :=
  match op with
  | .add => some (a.size + b.size ≤ maxLen, .v (.string (a ++ b)))
  | .eql => some (True, .v (.bool (decide (a.data.toList = b.data.toList))))
  | .neq => some (True, .v (.bool (!decide (a.data.toList = b.data.toList))))
  | _ => none

/-- The kinds of cells of a type whose values are compared cell by cell. -/
def scalT (P : Program) (t : TypeId) : Option TypeDesc :=
  match P.underlying t with
  | some (.int k) => some (.int k)
  | some .bool => some .bool
  | some .string => some .string
  | _ => none

def eqFieldsT (P : Program) : List Field → Nat → Option (List TypeDesc)
  | [], _ => some []
  | f :: fs, i => if f.name == "_" || f.offset != i || szT P f.type != some 1 then none else
    match scalT P f.type, eqFieldsT P fs (i + 1) with
    | some u, some us => some (u :: us)
    | _, _ => none

def eqShape (P : Program) (t : TypeId) : Option (List TypeDesc) :=
  if P.eqGuardType P.depth t then none else
  match P.underlying t with
  | some (.struct fields) => if P.stoodInHeld t then none else eqFieldsT P fields.toList 0
  | some (.array len e) => if szT P e != some 1 then none else
    match scalT P e with
    | some u => some (List.replicate len u)
    | none => none
  | _ => none

def eqCell : TypeDesc → D → D → Option Bool
  | .int _, .v (.int k a), .v (.int k' b) => if k = k' then some (decide (a = b)) else none
  | .bool, .v (.bool a), .v (.bool b) => some (a == b)
  | .string, .v (.string a), .v (.string b) => some (decide (a.data.toList = b.data.toList))
  | _, _, _ => none

def eqCells : List TypeDesc → List D → List D → Option Bool
  | [], [], [] => some true
  | u :: us, d :: ds, e :: es =>
    match eqCell u d e, eqCells us ds es with
    | some a, some b => some (a && b)
    | _, _ => none
  | _, _, _ => none

def binA (P : Program) (op : BinOp) (t : TypeId) (x y : D) : Option (Prop × D) :=
  match x, y with
  | .v (.int k a), .v (.int k' b) =>
    match op with
    | .shl => shiftA .shl k a b
    | .shr => shiftA .shr k a b
    | op => if k = k' then intA op k a b else none
  | .v (.string a), .v (.string b) => strA op a b
  | .v (.bool a), .v (.bool b) => match op, P.underlying t with
    | .eql, some .bool => some (True, .v (.bool (a == b)))
    | .neq, some .bool => some (True, .v (.bool (!(a == b))))
    | _, _ => none
  | .v (.pointer none), .v (.pointer b) => match op, P.underlying t with
    | .eql, some (.pointer _) => some (True, .v (.bool b.isNone))
    | .neq, some (.pointer _) => some (True, .v (.bool b.isSome))
    | _, _ => none
  | .v (.pointer (some a)), .v (.pointer none) => match op, P.underlying t with
    | .eql, some (.pointer _) => some (True, .v (.bool false))
    | .neq, some (.pointer _) => some (True, .v (.bool true))
    | _, _ => none
  | .ip _, .v (.pointer none) => match op, P.underlying t with
    | .eql, some (.pointer _) => some (True, .v (.bool false))
    | .neq, some (.pointer _) => some (True, .v (.bool true))
    | _, _ => none
  | .agg ds, .agg es => match op, eqShape P t with
    | .eql, some us => match eqCells us ds es with
      | some b => some (True, .v (.bool b))
      | none => none
    | .neq, some us => match eqCells us ds es with
      | some b => some (True, .v (.bool (!b)))
      | none => none
    | _, _ => none
  | _, _ => none

section
variable {P : Program} {W : World} {G : IG} {H : Heap} {w : World}

theorem intA_ok {op : BinOp} {k : IntKind} {a b : Int} {p : Prop} {r : D} (hl : intA op k a b = some (p, r)) (hp : p) (t : Nat)
    (h1 : op ≠ .shl) (h2 : op ≠ .shr) : ∃ v, (binOp op t (.int k a) (.int k b)).run P w = .ok v w ∧ Rep G v r := by
  unfold intA at hl
  cases op <;> simp at hl h1 h2 <;> obtain ⟨hp', rfl⟩ := hl
  all_goals refine ⟨_, ?_, .v _⟩
  all_goals first
    | (simp [binOp, Op.intArith]; done)
    | (simp [binOp, Op.intCmp]; done)
    | (simp [binOp, Op.intBits]; done)
    | (rw [← hp'] at hp; simp [binOp, Op.intDiv, hp]; done)
    | (simp [binOp, Op.intCmp, Int.beq_eq_decide_eq]; done)
    | skip
  all_goals (simp only [binOp, Op.intCmp]; simp; first | rfl | (by_cases h : a = b <;> simp [h]))

theorem shiftA_ok {op : BinOp} {k k' : IntKind} {a b : Int} {p : Prop} {r : D} (hl : shiftA op k a b = some (p, r)) (hp : p) (t : Nat) :
    ∃ v, (binOp op t (.int k a) (.int k' b)).run P w = .ok v w ∧ Rep G v r := by
  unfold shiftA at hl
  cases op <;> simp at hl <;> obtain ⟨hp', rfl⟩ := hl
  all_goals refine ⟨_, ?_, .v _⟩
  all_goals
    rw [← hp'] at hp
    simp [binOp, Op.shift, Int.not_lt.2 hp]

theorem beq_dec {α : Type} [BEq α] [LawfulBEq α] [DecidableEq α] (a b : α) : (a == b) = decide (a = b) := by by_cases h : a = b <;> simp [h]

theorem bytes_toList (a : ByteArray) : a.toList = a.data.toList := ByteArray.toList_eq a

theorem strA_ok {op : BinOp} {a b : ByteArray} {p : Prop} {r : D} (hl : strA op a b = some (p, r)) (hp : p) (t : Nat) :
    ∃ v, (binOp op t (.string a) (.string b)).run P w = .ok v w ∧ Rep G v r := by
  unfold strA at hl
  cases op <;> simp at hl <;> obtain ⟨hp', rfl⟩ := hl
  all_goals refine ⟨_, ?_, .v _⟩
  · rw [← hp'] at hp
    have : ((a.size : Int) + (b.size : Int)) ≤ 9223372036854775807 := by
      simp only [maxLen] at hp
      omega
    simp [binOp, Op.stringOp, IntKind.max, IntKind.signed, IntKind.bits, this]
  · simp only [binOp, Op.stringOp, bytes_toList]; simp [Bool.beq_eq_decide_eq, beq_dec]
  · simp only [binOp, Op.stringOp, bytes_toList]; simp [beq_dec]

theorem scalT_eq {t : Nat} {u : TypeDesc} (h : scalT P t = some u) : P.underlying t = some u ∧ aggT P t = some false := by
  unfold scalT at h
  unfold aggT
  split at h
  · rename_i k hu; cases h; exact ⟨hu, by simp [hu]⟩
  · rename_i hu; cases h; exact ⟨hu, by simp [hu]⟩
  · rename_i hu; cases h; exact ⟨hu, by simp [hu]⟩
  · cases h

theorem eqCell_ok {t : Nat} {u : TypeDesc} (hs : scalT P t = some u) {d e : D} {b : Bool} (h : eqCell u d e = some b) {x y : Value} (hx : Rep G x d) (hy : Rep G y e) (n : Nat) :
    (Op.equalIn (n + 1) t x y).run P w = .ok b w := by
  have hu := (scalT_eq hs).1
  unfold eqCell at h
  split at h
  · cases hx.inv_v; cases hy.inv_v
    rename_i k0 k a k' a'
    by_cases hk : k = k'
    · subst hk
      simp at h
      rw [run_equalIn_int w n t k k0 a a' hu]
      simp [← h, beq_dec]
    · simp [hk] at h
  · cases hx.inv_v; cases hy.inv_v
    simp at h
    rw [run_equalIn_bool' w n t _ _ hu]
    simp [← h]
  · cases hx.inv_v; cases hy.inv_v
    simp only [Option.some.injEq] at h
    rw [run_equalIn_string w n t _ _ hu]
    rw [← h, bytes_toList, bytes_toList, beq_dec]
  · cases h

theorem drop_head {α : Type} {l : List α} {i : Nat} {a : α} {as : List α} (h : l.drop i = a :: as) : l[i]? = some a := by
  have := List.getElem?_drop (xs := l) (i := i) (j := 0)
  rw [h] at this
  simpa using this.symm

theorem eqFields_ok (n : Nat) {cs cs' : List Value} {ds es : List D} (hx : Reps G cs ds) (hy : Reps G cs' es) :
    ∀ (fs : List Field) (i : Nat) (us : List TypeDesc) (b : Bool), eqFieldsT P fs i = some us → eqCells us (ds.drop i) (es.drop i) = some b →
      (Op.eqFields (n + 1) cs.toArray cs'.toArray fs).run P w = .ok b w
  | [], i, us, b, hf, he => by
    simp [eqFieldsT] at hf
    subst hf
    unfold eqCells at he
    split at he
    · cases he; simp [Op.eqFields]
    · simp_all
    · cases he
  | f :: fs, i, us, b, hf, he => by
    unfold eqFieldsT at hf
    split at hf
    · cases hf
    · rename_i hc
      simp at hc
      obtain ⟨⟨hname, hoff⟩, hsz⟩ := hc
      split at hf
      · rename_i u us' hu hus
        cases hf
        unfold eqCells at he
        split at he
        · simp_all
        · rename_i u0 us0 d0 ds0 e0 es0 h1 h2 h3
          cases h1
          split at he
          · rename_i a b' ha hb'
            simp at he
            have hd : ds[i]? = some d0 := drop_head h2
            have he' : es[i]? = some e0 := drop_head h3
            obtain ⟨c, hc, hrc⟩ := hx.get hd
            obtain ⟨c', hc', hrc'⟩ := hy.get he'
            have ih := eqFields_ok n hx hy fs (i + 1) us' b' hus (by
              rw [← List.drop_drop, h2, ← List.drop_drop, h3]; simpa using hb')
            have hp1 : (part f.type cs.toArray f.offset).run P w = .ok c w := by simp [part, run_aggT (scalT_eq hu).2, hoff, hc]
            have hp2 : (part f.type cs'.toArray f.offset).run P w = .ok c' w := by simp [part, run_aggT (scalT_eq hu).2, hoff, hc']
            have hq := eqCell_ok (w := w) hu ha hrc hrc' n
            rw [Op.eqFields]
            simp only [ne_eq, hname, not_false_eq_true, if_true, Sem.run_bind, hp1, hp2, hq, Result.andThen_ok]
            subst he
            cases a
            · simp
            · simpa using ih
          · cases he
        · cases he
      · cases hf

theorem eqItems_ok (n : Nat) {e : Nat} {u : TypeDesc} (hu : scalT P e = some u) (hsz : szT P e = some 1) {cs cs' : List Value} {ds es : List D} (hx : Reps G cs ds) (hy : Reps G cs' es) :
    ∀ (m i : Nat) (b : Bool), eqCells (List.replicate m u) (ds.drop i) (es.drop i) = some b →
      (Op.eqItems (n + 1) e 1 cs.toArray cs'.toArray (List.range' i m)).run P w = .ok b w
  | 0, i, b, he => by
    simp only [List.replicate_zero] at he
    unfold eqCells at he
    split at he
    · cases he; simp [Op.eqItems]
    · simp_all
    · cases he
  | m + 1, i, b, he => by
    rw [List.replicate_succ] at he
    unfold eqCells at he
    split at he
    · simp_all
    · rename_i u0 us0 d0 ds0 e0 es0 h1 h2 h3
      cases h1
      split at he
      · rename_i a b' ha hb'
        simp at he
        have hd : ds[i]? = some d0 := drop_head h2
        have he' : es[i]? = some e0 := drop_head h3
        obtain ⟨c, hc, hrc⟩ := hx.get hd
        obtain ⟨c', hc', hrc'⟩ := hy.get he'
        have ih := eqItems_ok n hu hsz hx hy m (i + 1) b' (by
              rw [← List.drop_drop, h2, ← List.drop_drop, h3]; simpa using hb')
        have hp1 : (part e cs.toArray (i * 1)).run P w = .ok c w := by simp [part, run_aggT (scalT_eq hu).2, hc]
        have hp2 : (part e cs'.toArray (i * 1)).run P w = .ok c' w := by simp [part, run_aggT (scalT_eq hu).2, hc']
        have hq := eqCell_ok (w := w) hu ha hrc hrc' n
        rw [List.range'_succ, Op.eqItems]
        simp only [Sem.run_bind, hp1, hp2, hq, Result.andThen_ok]
        subst he
        cases a
        · simp
        · simpa using ih
      · cases he
    · cases he

theorem eqShape_ok {t : Nat} {us : List TypeDesc} (hs : eqShape P t = some us) {ds es : List D} {b : Bool} (he : eqCells us ds es = some b) {cs cs' : List Value} (hx : Reps G cs ds) (hy : Reps G cs' es) :
    P.eqGuardType P.depth t = false ∧ (Op.equalIn 10000 t (.agg cs.toArray) (.agg cs'.toArray)).run P w = .ok b w := by
  unfold eqShape at hs
  split at hs
  · cases hs
  · rename_i hgd
    refine ⟨by simpa using hgd, ?_⟩
    split at hs
    · rename_i fields hu
      split at hs
      · cases hs
      · rename_i hst
        have hf : P.fieldsOf t = fields := by simp [Program.fieldsOf, hu]
        rw [show (10000 : Nat) = 9999 + 1 from rfl, run_equalIn_struct (P := P) w 9999 t _ _ (by rw [hf]; exact hu) (by simpa using hst), hf]
        exact eqFields_ok 9998 hx hy _ 0 us b hs (by simpa using he)
    · rename_i len e hu
      split at hs
      · cases hs
      · rename_i hsz
        have hsz' : szT P e = some 1 := by simpa using hsz
        split at hs
        · rename_i u hsc
          cases hs
          have hi : ∃ i, P.info? e = some i := by
            unfold szT at hsz'
            cases hi : P.info? e with
            | none => simp [hi] at hsz'
            | some i => exact ⟨i, rfl⟩
          obtain ⟨i, hi⟩ := hi
          have hc : P.cellsOf e = 1 := by
            have := hsz'
            simp [szT, hi] at this
            simp [Program.cellsOf, hi, this]
          rw [show (10000 : Nat) = 9999 + 1 from rfl, run_equalIn_array w 9999 _ _ hu hi, hc, List.range_eq_range']
          exact eqItems_ok 9998 hsc hsz' hx hy len 0 b (by simpa using he)
        · cases hs
    · cases hs

theorem run_eqGuard_v (op : BinOp) (t : TypeId) (x y : Operand) {a b : Value} (h : ∀ cs, a ≠ .agg cs) (h' : a ≠ .nilIface) : (eqGuard op t x y a b).run P w = .ok () w := by
  unfold eqGuard
  cases op <;> simp <;> (cases a <;> simp_all)

theorem run_equalIn_ptr1 (n : Nat) {t e : Nat} (hu : P.underlying t = some (.pointer e)) (b : Option Addr) :
    (Op.equalIn (n + 1) t (.pointer none) (.pointer b)).run P w = .ok b.isNone w := by
  simp only [Op.equalIn, Sem.run_bind, run_underlying hu, Result.andThen_ok, Sem.run_pure]
theorem run_equalIn_ptr2 (n : Nat) {t e : Nat} (hu : P.underlying t = some (.pointer e)) (a : Addr) :
    (Op.equalIn (n + 1) t (.pointer (some a)) (.pointer none)).run P w = .ok false w := by
  simp only [Op.equalIn, Sem.run_bind, run_underlying hu, Result.andThen_ok, Sem.run_pure]

theorem run_eql_of {t : Nat} {x y : Value} {b : Bool} (h : (Op.equalIn 10000 t x y).run P w = .ok b w)
    (hb : binOp .eql t x y = (do pure (.bool (← Op.equal t x y)))) : (binOp .eql t x y).run P w = .ok (.bool b) w := by
  rw [hb, Sem.run_bind, show Op.equal t x y = Op.equalIn 10000 t x y from rfl, h]; rfl
theorem run_neq_of {t : Nat} {x y : Value} {b : Bool} (h : (Op.equalIn 10000 t x y).run P w = .ok b w)
    (hb : binOp .neq t x y = (do pure (.bool (!(← Op.equal t x y))))) : (binOp .neq t x y).run P w = .ok (.bool (!b)) w := by
  rw [hb, Sem.run_bind, show Op.equal t x y = Op.equalIn 10000 t x y from rfl, h]; rfl

theorem binA_ok {op : BinOp} {t : Nat} {d e : D} {p : Prop} {r : D} (hl : binA P op t d e = some (p, r)) (hp : p) {x y : Value} (hx : Rep G x d) (hy : Rep G y e) (ox oy : Operand) :
    ∃ v, (do eqGuard op t ox oy x y; binOp op t x y : Sem Value).run P w = .ok v w ∧ Rep G v r := by
  unfold binA at hl
  split at hl
  · cases hx.inv_v; cases hy.inv_v
    simp only [Sem.run_bind]
    rw [run_eqGuard_v op t ox oy (by simp) (by simp)]
    simp only [Result.andThen_ok]
    split at hl
    · exact shiftA_ok hl hp t
    · exact shiftA_ok hl hp t
    · split at hl
      · rename_i k a k' b _ h1 h2 hk
        subst hk
        exact intA_ok hl hp t (by simpa using h1) (by simpa using h2)
      · cases hl
  · cases hx.inv_v; cases hy.inv_v
    simp only [Sem.run_bind]
    rw [run_eqGuard_v op t ox oy (by simp) (by simp)]
    simp only [Result.andThen_ok]
    exact strA_ok hl hp t
  · cases hx.inv_v; cases hy.inv_v
    simp only [Sem.run_bind]
    rw [run_eqGuard_v op t ox oy (by simp) (by simp)]
    simp only [Result.andThen_ok]
    split at hl
    · rename_i hu
      simp at hl
      obtain ⟨_, rfl⟩ := hl
      exact ⟨_, run_eql_of (run_equalIn_bool' w 9999 t _ _ hu) rfl, .v _⟩
    · rename_i hu
      simp at hl
      obtain ⟨_, rfl⟩ := hl
      exact ⟨_, run_neq_of (run_equalIn_bool' w 9999 t _ _ hu) rfl, .v _⟩
    · cases hl
  · cases hx.inv_v; cases hy.inv_v
    simp only [Sem.run_bind]
    rw [run_eqGuard_v op t ox oy (by simp) (by simp)]
    simp only [Result.andThen_ok]
    split at hl
    · rename_i hu
      simp at hl
      obtain ⟨_, rfl⟩ := hl
      exact ⟨_, run_eql_of (run_equalIn_ptr1 9999 hu _) rfl, .v _⟩
    · rename_i hu
      simp at hl
      obtain ⟨_, rfl⟩ := hl
      exact ⟨_, run_neq_of (run_equalIn_ptr1 9999 hu _) rfl, by simpa using Rep.v (G := G) _⟩
    · cases hl
  · cases hx.inv_v; cases hy.inv_v
    simp only [Sem.run_bind]
    rw [run_eqGuard_v op t ox oy (by simp) (by simp)]
    simp only [Result.andThen_ok]
    split at hl
    · rename_i hu
      simp at hl
      obtain ⟨_, rfl⟩ := hl
      exact ⟨_, run_eql_of (run_equalIn_ptr2 9999 hu _) rfl, .v _⟩
    · rename_i hu
      simp at hl
      obtain ⟨_, rfl⟩ := hl
      exact ⟨_, run_neq_of (run_equalIn_ptr2 9999 hu _) rfl, .v _⟩
    · cases hl
  · cases hy.inv_v
    obtain ⟨b, o, rfl, _⟩ := hx.inv_ip
    simp only [Sem.run_bind]
    rw [run_eqGuard_v op t ox oy (by simp) (by simp)]
    simp only [Result.andThen_ok]
    split at hl
    · rename_i hu
      simp at hl
      obtain ⟨_, rfl⟩ := hl
      exact ⟨_, run_eql_of (run_equalIn_ptr2 9999 hu _) rfl, .v _⟩
    · rename_i hu
      simp at hl
      obtain ⟨_, rfl⟩ := hl
      exact ⟨_, run_neq_of (run_equalIn_ptr2 9999 hu _) rfl, .v _⟩
    · cases hl
  · obtain ⟨cs, rfl, hr⟩ := hx.inv_agg
    obtain ⟨cs', rfl, hr'⟩ := hy.inv_agg
    split at hl
    · rename_i us hs
      split at hl
      · rename_i b he
        simp at hl
        obtain ⟨_, rfl⟩ := hl
        obtain ⟨hg, hrun⟩ := eqShape_ok (w := w) hs he hr hr'
        exact ⟨_, by simp only [Sem.run_bind]; rw [run_eqGuard_agg w _ t ox oy _ _ hg, Result.andThen_ok, run_eql_struct, hrun]; rfl, .v _⟩
      · cases hl
    · rename_i us hs
      split at hl
      · rename_i b he
        simp at hl
        obtain ⟨_, rfl⟩ := hl
        obtain ⟨hg, hrun⟩ := eqShape_ok (w := w) hs he hr hr'
        exact ⟨_, by simp only [Sem.run_bind]; rw [run_eqGuard_agg w _ t ox oy _ _ hg, Result.andThen_ok, run_neq_struct, hrun]; rfl, .v _⟩
      · cases hl
    · cases hl
  · cases hl
end
end Go.Sn
namespace Go.Sn
open Go Go.RowKit
set_option linter.unusedVariables false
set_option linter.unusedSimpArgs false

/-- The cells of a value. -/
def D.cells : D → List D
  | .agg ds => ds
  | d => [d]

/-- A value that one cell holds. -/
def D.one : D → Bool
  | .v x => x.oneCell'
  | .agg _ => false
  | .tup _ => false
  | .gd _ _ => false
  | _ => true

/-- A value that cells hold: one cell, or an aggregate of such. -/
def D.stor : D → Bool
  | .agg ds => ds.all D.one
  | d => d.one

theorem Rep.cells {G : IG} {x : Value} {d : D} (h : Rep G x d) (h1 : d.stor = true) : Reps G x.cells.toList d.cells := by
  cases h with
  | agg cs ds hn hr => exact ⟨hn, hr⟩
  | v x =>
    have : x.oneCell' = true := by simpa [D.stor, D.one] using h1
    cases x <;> first | (simp [Value.oneCell'] at this; done) | exact Reps.cons (.v _) (Reps.nil G)
  | nil0 => exact Reps.cons .nil0 (Reps.nil G)
  | nil1 a => exact Reps.cons (.nil1 a) (Reps.nil G)
  | listE a => exact Reps.cons (.listE a) (Reps.nil G)
  | listNil => exact Reps.cons .listNil (Reps.nil G)
  | list b o n c sz xs f hn hc hl hg hr => exact Reps.cons (.list b o n c sz xs f hn hc hl hg hr) (Reps.nil G)
  | own b n c sz xs f hn hc hl hg hr => exact Reps.cons (.own b n c sz xs f hn hc hl hg hr) (Reps.nil G)
  | ip b o ds f hg hr => exact Reps.cons (.ip b o ds f hg hr) (Reps.nil G)
  | tup cs ds hn hr => exact absurd h1 (by simp [D.stor, D.one])
  | gdT x d hr => simp [D.stor, D.one] at h1
  | gdF d => simp [D.stor, D.one] at h1

theorem Rep.one {G : IG} {x : Value} {d : D} (h : Rep G x d) (h1 : d.one = true) : x.oneCell' = true := by
  cases h <;> simp_all [D.one, Value.oneCell']

theorem Rep.stor {G : IG} {x : Value} {d : D} (h : Rep G x d) (h1 : d.stor = true) : Reps G x.cells.toList d.cells ∧ ∀ c ∈ x.cells.toList, c.oneCell' = true := by
  refine ⟨h.cells h1, ?_⟩
  cases h with
  | agg cs ds hn hr =>
    intro c hc
    simp [D.stor] at h1
    simp [Value.cells] at hc
    obtain ⟨k, hk, rfl⟩ := List.getElem_of_mem hc
    have hk' : k < ds.length := by omega
    exact (hr k ds[k] cs[k] (List.getElem?_eq_getElem hk') (List.getElem?_eq_getElem hk)).one (h1 _ (List.getElem_mem hk'))
  | v x =>
    simp [D.stor, D.one] at h1
    intro c hc
    cases x <;> simp_all [Value.cells, Value.oneCell']
  | _ => intro c hc; simp_all [Value.cells, Value.oneCell', D.stor, D.one]

/-! ### structs and arrays, built -/

/-- The places of a struct's fields, of an array's elements. -/
def fieldPlaces (P : Program) : List Field → Option (List (Nat × Nat))
  | [] => some []
  | f :: fs => match szT P f.type, fieldPlaces P fs with
    | some n, some l => some ((f.offset, n) :: l)
    | _, _ => none

def placesT (P : Program) (t : TypeId) : Option (List (Nat × Nat)) :=
  match P.underlying t with
  | some (.struct fields) => fieldPlaces P fields.toList
  | some (.array len e) => match szT P e with
    | some n => some ((List.range len).map fun i => (i * n, n))
    | none => none
  | _ => none

def fillA (place : Nat → Option (Nat × Nat)) (cells : List D) : List (Nat × D) → Option (List D)
  | [] => some cells
  | (i, d) :: rest =>
    match place i with
    | none => none
    | some (off, size) =>
      if d.cells.length = size ∧ off + size ≤ cells.length ∧ d.stor = true
      then fillA place (cells.take off ++ d.cells ++ cells.drop (off + size)) rest else none

theorem set_take_drop {α : Type} (cs l : List α) (v : α) (o : Nat) (h : o + (l.length + 1) ≤ cs.length) :
    (cs.set o v).take (o + 1) ++ l ++ (cs.set o v).drop (o + 1 + l.length) = cs.take o ++ (v :: l) ++ cs.drop (o + (l.length + 1)) := by
  have h0 : o < cs.length := by omega
  have h1 : (cs.set o v).take (o + 1) = cs.take o ++ [v] := by
    rw [List.take_add_one, List.take_set_of_le (Nat.le_refl _)]
    simp [h0]
  rw [h1, List.drop_set_of_lt (by omega)]
  simp [Nat.add_assoc, Nat.add_comm 1]

theorem foldl_zipIdx_set (off : Nat) : ∀ (l : List Value) (j : Nat) (cs : Array Value), off + j + l.length ≤ cs.size →
    ((l.zipIdx j).foldl (fun cs x => cs.setIfInBounds (off + x.2) x.1) cs).toList = cs.toList.take (off + j) ++ l ++ cs.toList.drop (off + j + l.length)
  | [], j, cs, _ => by simp
  | v :: l, j, cs, h => by
    simp only [List.zipIdx_cons, List.foldl_cons]
    simp only [List.length_cons] at h
    rw [foldl_zipIdx_set off l (j + 1) _ (by simp; omega)]
    simp only [Array.toList_setIfInBounds, List.length_cons]
    exact set_take_drop cs.toList l v (off + j) (by simpa using h)

theorem fillA_ok {G : IG} (placeC placeA : Nat → Option (Nat × Nat)) (hpl : ∀ i x, placeA i = some x → placeC i = some x) :
    ∀ (parts : List (Nat × D)) (vs : List (Nat × Value)) (cells r : List D) (cs : Array Value), fillA placeA cells parts = some r → Reps G cs.toList cells →
      parts.length = vs.length → (∀ (k : Nat) (a : Nat × D) (b : Nat × Value), parts[k]? = some a → vs[k]? = some b → a.1 = b.1 ∧ Rep G b.2 a.2) →
      ∃ cs' : Array Value, Instr.fill placeC cs vs = some cs' ∧ Reps G cs'.toList r
  | [], vs, cells, r, cs, hf, hr, hl, _ => by
    simp [fillA] at hf
    subst hf
    have : vs = [] := List.eq_nil_of_length_eq_zero (by simpa using hl.symm)
    subst this
    exact ⟨cs, rfl, hr⟩
  | (i, d) :: rest, vs, cells, r, cs, hf, hr, hl, hv => by
    cases vs with
    | nil => simp at hl
    | cons x vs =>
      obtain ⟨i', x⟩ := x
      obtain ⟨hi, hx⟩ := hv 0 _ _ rfl rfl
      simp at hi hx
      subst hi
      unfold fillA at hf
      split at hf
      · cases hf
      · rename_i off size hpa
        split at hf
        · rename_i hc
          obtain ⟨hlen, hle, hst⟩ := hc
          have hrx := (hx.stor hst).1
          have hxs : x.cells.size = size := by rw [← hlen, ← hrx.1]; simp
          have hcs : cs.size = cells.length := by rw [← hr.1]; simp
          have hq := foldl_zipIdx_set off x.cells.toList 0 cs (by simp; omega)
          unfold Instr.fill
          simp only [hpl _ _ hpa]
          rw [if_neg (by simp; omega)]
          refine fillA_ok placeC placeA hpl rest vs _ r _ hf ?_ (by simpa using hl) (fun k a b ha hb => hv (k + 1) a b (by simpa using ha) (by simpa using hb))
          have he : (x.cells.zipIdx.foldl (fun cs x => cs.setIfInBounds (off + x.2) x.1) cs).toList = cs.toList.take off ++ x.cells.toList ++ cs.toList.drop (off + size) := by
            rw [← Array.foldl_toList, Array.toList_zipIdx, hq]
            simp [hxs]
          have he' : (x.cells.zipIdx.foldl (fun cs x => match x with | (c, j) => cs.setIfInBounds (off + j) c) cs).toList = cs.toList.take off ++ x.cells.toList ++ cs.toList.drop (off + size) := he
          rw [he']
          exact ((hr.take off).append hrx).append (hr.drop _)
        · cases hf

def buildA (P : Program) (t : TypeId) (parts : List (Nat × D)) : Option (Prop × D) :=
  match zeroT P t, placesT P t with
  | some z, some l => match fillA (fun i => l[i]?) z parts with
    | some r => some (True, .agg r)
    | none => none
  | _, _ => none

section
variable {P : Program} {W : World} {G : IG} {H : Heap} {w : World}

theorem run_fieldPlaces : ∀ (fs : List Field) (l : List (Nat × Nat)), fieldPlaces P fs = some l →
    (fs.mapM (fun f => (do pure (f.offset, ← sizeOf f.type) : Sem (Nat × Nat)))).run P w = .ok l w
  | [], l, h => by simp [fieldPlaces] at h; subst h; simp
  | f :: fs, l, h => by
    unfold fieldPlaces at h
    split at h
    · rename_i n l' hn hl
      cases h
      have ih := run_fieldPlaces fs l' hl
      simp only [List.mapM_cons, Sem.run_bind, run_szT hn, Result.andThen_ok, Sem.run_pure] at ih ⊢
      rw [ih]
      rfl
    · cases h

theorem zeroT_run {t : Nat} {z : List D} (h : zeroT P t = some z) : ∃ x : Value, (zeroValue t).run P w = .ok x w ∧ Reps G x.cells.toList z ∧ ∀ c ∈ x.cells.toList, c.oneCell' = true := by
  unfold zeroT at h
  split at h
  · rename_i i hi
    split at h
    · rename_i x hx
      split at h
      · rename_i h1
        cases h
        refine ⟨x, by simp [zeroValue, typeInfo, hi, hx], ⟨by simp, fun k d c hd hc => ?_⟩, fun c hc => List.all_eq_true.1 h1 c hc⟩
        rw [List.getElem?_map, hc] at hd
        simp at hd
        subst hd
        exact rep_ofV G c
      · cases h
    · cases h
  · cases h

theorem buildA_ok {t : Nat} {parts : List (Nat × D)} {p : Prop} {r : D} (hl : buildA P t parts = some (p, r)) {vs : List (Nat × Value)} (hn : parts.length = vs.length)
    (hv : ∀ (k : Nat) (a : Nat × D) (b : Nat × Value), parts[k]? = some a → vs[k]? = some b → a.1 = b.1 ∧ Rep G b.2 a.2) :
    ∃ v, (Instr.build t vs.toArray).run P w = .ok v w ∧ Rep G v r := by
  unfold buildA at hl
  split at hl
  · rename_i z l hz hpl
    split at hl
    · rename_i r' hf
      simp at hl
      obtain ⟨_, rfl⟩ := hl
      obtain ⟨x, hx, hrx, _⟩ := zeroT_run (w := w) (G := G) hz
      unfold placesT at hpl
      split at hpl
      · rename_i fields hu
        obtain ⟨cs', hcs', hr'⟩ := fillA_ok (G := G) (fun i => l.toArray[i]?) _ (fun i x h => by simpa using h) parts vs z _ x.cells hf hrx hn hv
        refine ⟨.agg cs', ?_, Rep.mkAgg (cs := cs'.toList) hr'⟩
        have hm := run_fieldPlaces (P := P) (w := w) fields.toList l hpl
        simp only [Instr.build, Sem.run_bind, hx, Result.andThen_ok, run_underlying hu, Array.mapM_eq_mapM_toList, Sem.run_map]
        rw [hm]
        simp only [Result.andThen_ok]
        rw [hcs']
        rfl
      · rename_i len e hu
        split at hpl
        · rename_i n hsz
          cases hpl
          obtain ⟨cs', hcs', hr'⟩ := fillA_ok (G := G) (fun i => some (i * n, n)) _ (fun i x h => by
            simp only [List.getElem?_map, Option.map_eq_some_iff] at h
            obtain ⟨j, hj, rfl⟩ := h
            have := List.getElem?_eq_some_iff.1 hj
            obtain ⟨_, hj'⟩ := this
            simp at hj'
            simp [hj']) parts vs z _ x.cells hf hrx hn hv
          refine ⟨.agg cs', ?_, Rep.mkAgg (cs := cs'.toList) hr'⟩
          simp only [Instr.build, Sem.run_bind, hx, Result.andThen_ok, run_underlying hu, run_szT hsz]
          rw [hcs']
          rfl
        · cases hpl
      · cases hpl
    · cases hl
  · cases hl

/-! ### one-place operators, conversions of numbers, results -/

def unA (op : UnOp) : D → Option (Prop × D)
  | .v (.bool b) => match op with
    | .not => some (True, .v (.bool (!b)))
    | _ => none
  | .v (.int k n) => match op with
    | .neg => some (True, .v (.int k (k.wrap (0 - n))))
    | _ => none
  | _ => none

theorem unA_ok {op : UnOp} {d r : D} {p : Prop} {x : Value} (hl : unA op d = some (p, r)) (hx : Rep G x d) :
    ∃ v, (Op.unary op x).run P w = .ok v w ∧ Rep G v r := by
  unfold unA at hl
  split at hl
  · cases hx.inv_v
    split at hl
    · simp at hl; obtain ⟨_, rfl⟩ := hl; exact ⟨_, by simp [Op.unary], .v _⟩
    · cases hl
  · cases hx.inv_v
    split at hl
    · simp at hl; obtain ⟨_, rfl⟩ := hl; exact ⟨_, by simp [Op.unary, Op.intArith], .v _⟩
    · cases hl
  · cases hl

def convA (P : Program) (s t : TypeId) (x : D) : Option (Prop × D) :=
  match P.underlying s, P.underlying t with
  | some (.int _), some (.int k) => match x with
    | .v (.int _ n) => some (True, .v (.int k (k.wrap n)))
    | _ => none
  | some .string, some .string => match x with
    | .v (.string b) => some (True, .v (.string b))
    | _ => none
  | _, _ => none

theorem convA_ok {s t : Nat} {d r : D} {p : Prop} {x : Value} (hl : convA P s t d = some (p, r)) (hx : Rep G x d) :
    ∃ v, (convert s t x).run P w = .ok v w ∧ Rep G v r := by
  unfold convA at hl
  split at hl
  · rename_i k hs ht
    split at hl
    · cases hx.inv_v
      simp at hl; obtain ⟨_, rfl⟩ := hl
      exact ⟨_, by simp [convert, run_underlying hs, run_underlying ht, Conv.intToInt], .v _⟩
    · cases hl
  · rename_i hs ht
    split at hl
    · cases hx.inv_v
      simp at hl; obtain ⟨_, rfl⟩ := hl
      exact ⟨_, by simp [convert, run_underlying hs, run_underlying ht], .v _⟩
    · cases hl
  · cases hl

def lenA (P : Program) (H : Heap) (t : TypeId) (x : D) : Option (Prop × D) :=
  match P.underlying t with
  | some .string => match x with
    | .v (.string s) => some (True, .v (.int .i64 s.size))
    | _ => none
  | some (.slice _) => match x with
    | .v (.slice _ n _) => some (True, .v (.int .i64 n))
    | x => match x.elems with
      | some xs => some (True, .v (.int .i64 xs.length))
      | none => none
  | some (.array n _) => some (True, .v (.int .i64 n))
  | some (.map _ _) => match x with
    | .v (.map none) => some (True, .v (.int .i64 0))
    | .v (.map (some b)) => match H b with
      | some (.map es) => some (True, .v (.int .i64 es.length))
      | _ => none
    | _ => none
  | _ => none

theorem run_getObj {b : Nat} {o : Obj} (h : w.heap[b]? = some o) (ho : ∀ c e f, o ≠ .cells c e f) : (getObj b).run P w = .ok o w := by
  simp only [getObj, Sem.run, h]

theorem lenA_ok {t : Nat} {d r : D} {p : Prop} {x : Value} (hl : lenA P H t d = some (p, r)) (h : Inv W G H w) (hx : Rep G x d) (ty : TypeId) :
    ∃ v, (Builtin.len_ #[t] ty #[x]).run P w = .ok v w ∧ Rep G v r := by
  unfold lenA at hl
  split at hl
  · rename_i hu
    split at hl
    · cases hx.inv_v
      simp at hl; obtain ⟨_, rfl⟩ := hl
      exact ⟨_, by simp [Builtin.len_, run_underlying hu, goInt], .v _⟩
    · cases hl
  · rename_i e hu
    split at hl
    · cases hx.inv_v
      simp at hl; obtain ⟨_, rfl⟩ := hl
      exact ⟨_, by simp [Builtin.len_, run_underlying hu, goInt], .v _⟩
    · split at hl
      · rename_i xs hxs
        simp at hl; obtain ⟨_, rfl⟩ := hl
        rcases hx.inv_elems hxs with ⟨⟨ax, rfl⟩, rfl⟩ | ⟨b, o, c, sz, rfl, _, _, _⟩
        · exact ⟨_, by simp [Builtin.len_, run_underlying hu, goInt], .v _⟩
        · exact ⟨_, by simp [Builtin.len_, run_underlying hu, goInt], .v _⟩
      · cases hl
  · rename_i n e hu
    simp at hl; obtain ⟨_, rfl⟩ := hl
    exact ⟨_, by simp [Builtin.len_, run_underlying hu, goInt], .v _⟩
  · rename_i k e hu
    split at hl
    · cases hx.inv_v
      simp at hl; obtain ⟨_, rfl⟩ := hl
      exact ⟨_, by simp [Builtin.len_, run_underlying hu, goInt], .v _⟩
    · cases hx.inv_v
      split at hl
      · rename_i es hb
        simp at hl; obtain ⟨_, rfl⟩ := hl
        obtain ⟨_, ms, ck, hms, hlen, _⟩ := h.res _ _ hb
        exact ⟨_, by simp [Builtin.len_, run_underlying hu, goInt, run_getObj hms, hlen], .v _⟩
      · cases hl
    · cases hl
  · cases hl

def maxA (f : Int → Int → Int) : List D → Option (Prop × D)
  | [.v (.int k a), .v (.int k' b)] => if k = k' then some (True, .v (.int k (f a b))) else none
  | _ => none

/-- The greater, and the smaller, of two numbers. -/
def imax (a b : Int) : Int := if a < b then b else a
def imin (a b : Int) : Int := if b < a then b else a
theorem imax_eq (a b : Int) : imax a b = max a b := by unfold imax; omega
theorem imin_eq (a b : Int) : imin a b = min a b := by unfold imin; omega

theorem max_ok {ds : List D} {p : Prop} {r : D} (hl : maxA imax ds = some (p, r)) {vs : List Value} (hv : Reps G vs ds) (ts : Array TypeId) (ty : TypeId) :
    ∃ v, (Builtin.max_ ts ty vs.toArray).run P w = .ok v w ∧ Rep G v r := by
  unfold maxA at hl
  split at hl
  · rename_i k a k' b
    obtain ⟨c0, hc0, h0⟩ := hv.get (k := 0) rfl
    obtain ⟨c1, hc1, h1⟩ := hv.get (k := 1) rfl
    cases h0.inv_v; cases h1.inv_v
    have hlen := hv.1
    match vs, hlen, hc0, hc1 with
    | [x, y], _, hc0, hc1 =>
      simp at hc0 hc1
      subst hc0; subst hc1
      split at hl
      · rename_i hk
        subst hk
        simp at hl; obtain ⟨_, rfl⟩ := hl
        exact ⟨_, by simp [Builtin.max_, Builtin.max2, imax], .v _⟩
      · cases hl
  · cases hl

theorem min_ok {ds : List D} {p : Prop} {r : D} (hl : maxA imin ds = some (p, r)) {vs : List Value} (hv : Reps G vs ds) (ts : Array TypeId) (ty : TypeId) :
    ∃ v, (Builtin.min_ ts ty vs.toArray).run P w = .ok v w ∧ Rep G v r := by
  unfold maxA at hl
  split at hl
  · rename_i k a k' b
    obtain ⟨c0, hc0, h0⟩ := hv.get (k := 0) rfl
    obtain ⟨c1, hc1, h1⟩ := hv.get (k := 1) rfl
    cases h0.inv_v; cases h1.inv_v
    have hlen := hv.1
    match vs, hlen, hc0, hc1 with
    | [x, y], _, hc0, hc1 =>
      simp at hc0 hc1
      subst hc0; subst hc1
      split at hl
      · rename_i hk
        subst hk
        simp at hl; obtain ⟨_, rfl⟩ := hl
        exact ⟨_, by simp [Builtin.min_, Builtin.min2, imin], .v _⟩
      · cases hl
  · cases hl

def extractA (i : Nat) : D → Option (Prop × D)
  | .tup ds => match ds[i]? with
    | some d => some (True, d)
    | none => none
  | _ => none

theorem extractA_ok {i : Nat} {d r : D} {p : Prop} {x : Value} (hl : extractA i d = some (p, r)) (hx : Rep G x d) :
    ∃ v, (Instr.extract x i).run P w = .ok v w ∧ Rep G v r := by
  unfold extractA at hl
  split at hl
  · obtain ⟨cs, rfl, hr⟩ := hx.inv_tup
    split at hl
    · rename_i ds d hd
      simp at hl; obtain ⟨_, rfl⟩ := hl
      obtain ⟨c, hc, hrc⟩ := hr.get hd
      exact ⟨c, by simp [Instr.extract, hc], hrc⟩
    · cases hl
  · cases hl

/-- The choice between two values; of '||' and '&&' the plain word. -/
def selA (t : Bool) : D → D → D
  | .v (.bool true), .gd c (.v (.bool p)) => if (c == !t) = true then .v (.bool (t || p)) else if t = true then .v (.bool true) else .gd c (.v (.bool p))
  | .gd c (.v (.bool p)), .v (.bool false) => if (c == t) = true then .v (.bool (t && p)) else if t = true then .gd c (.v (.bool p)) else .v (.bool false)
  | a, b => if t = true then a else b

theorem selA_ok {G : IG} (t : Bool) {a b : D} {x y : Value} (hx : Rep G x a) (hy : Rep G y b) : Rep G (if t = true then x else y) (selA t a b) := by
  by_cases h1 : ∃ c p, a = .v (.bool true) ∧ b = .gd c (.v (.bool p))
  · obtain ⟨c, p, rfl, rfl⟩ := h1
    cases hx.inv_v
    cases t <;> cases c <;> simp [selA]
    · exact hy
    · exact (hy.inv_gd rfl).inv_v ▸ .v _
    · exact .v _
    · exact .v _
  · by_cases h2 : ∃ c p, a = .gd c (.v (.bool p)) ∧ b = .v (.bool false)
    · obtain ⟨c, p, rfl, rfl⟩ := h2
      cases hy.inv_v
      cases t <;> cases c <;> simp [selA]
      · exact .v _
      · exact .v _
      · exact hx
      · exact (hx.inv_gd rfl).inv_v ▸ .v _
    · have : selA t a b = if t = true then a else b := by
        unfold selA
        split
        · exact absurd ⟨_, _, rfl, rfl⟩ h1
        · exact absurd ⟨_, _, rfl, rfl⟩ h2
        · rfl
      rw [this]
      cases t
      · simpa using hy
      · simpa using hx

def pickA (c a b : D) : Option (Prop × D) :=
  match c with
  | .v (.bool t) => some (True, selA t a b)
  | _ => none

def nilCheckA : D → Option (Prop × D)
  | .v (.pointer (some a)) => some (True, .v (.pointer (some a)))
  | .ip ds => some (True, .ip ds)
  | .v (.func (.func f) first captured) => some (True, .v (.func (.func f) first captured))
  | _ => none

/-- Values that stand for themselves. -/
def litsA : List D → Option (List Value)
  | [] => some []
  | .v x :: ds => match litsA ds with
    | some l => some (x :: l)
    | none => none
  | _ :: _ => none

theorem litsA_ok : ∀ {ds : List D} {l : List Value} {vs : List Value}, litsA ds = some l → Reps G vs ds → vs = l
  | [], l, vs, h, hv => by
    simp [litsA] at h; subst h
    exact List.eq_nil_of_length_eq_zero (by simpa using hv.1)
  | d :: ds, l, vs, h, hv => by
    unfold litsA at h
    split at h
    · simp_all
    · rename_i x ds' heq
      cases heq
      split at h
      · rename_i l' hl'
        cases h
        match vs, hv with
        | [], hv => have := hv.1; simp at this
        | v :: vs, hv =>
          cases (hv.2 0 _ v rfl rfl).inv_v
          congr 1
          exact litsA_ok hl' ⟨by simpa using hv.1, fun k d c hd hc => hv.2 (k + 1) d c (by simpa using hd) (by simpa using hc)⟩
      · cases h
    · cases h

/-- An operand. -/
def ev (env : Nat → D) : Operand → D
  | .tmp t => env t
  | .const v => ofV v
  | .global g => .v (.pointer (some ⟨g, 0, none⟩))
  | .func f => .v (.func (.func f) #[] #[])

def partsA (ρ : Operand → D) (l : List (Nat × Operand)) : List (Nat × D) := l.map fun x => (x.1, ρ x.2)

/-- WHAT AN OPERATION THAT LEAVES THE WORLD ALONE GIVES: under which condition, and what. -/
def valA (P : Program) (ρ : Operand → D) (H : Heap) : Op → Option (Prop × D)
  | .move x => some (True, ρ x)
  | .assign x => some (True, ρ x)
  | .pick c a b => pickA (ρ c) (ρ a) (ρ b)
  | .load t a => loadA P H t (ρ a)
  | .nilCheck x => nilCheckA (ρ x)
  | .binOp op t x y _ => binA P op t (ρ x) (ρ y)
  | .unOp op _ x => unA op (ρ x)
  | .convert s t x => convA P s t (ρ x)
  | .build t parts => buildA P t (partsA ρ parts.toList)
  | .slice t x lo hi mx => sliceA P t (ρ x) (lo.map ρ) (hi.map ρ) (mx.map ρ)
  | .fieldAddr s x f => fieldAddrA P s f (ρ x)
  | .field s x f => fieldA P s f (ρ x)
  | .indexAddr t x i => indexAddrA P t (ρ x) (ρ i)
  | .index t x i => indexA P t (ρ x) (ρ i)
  | .extract x i => extractA i (ρ x)
  | .makeFunc fn first captured => match litsA (first.toList.map ρ), litsA (captured.toList.map ρ) with
    | some a, some b => some (True, .v (.func fn a.toArray b.toArray))
    | _, _ => none
  | .call c => match c.callee with
    | .builtin .len => match c.args.toList, c.argTypes.toList with
      | [x], [t] => lenA P H t (ρ x)
      | _, _ => none
    | .builtin .max => maxA imax (c.args.toList.map ρ)
    | .builtin .min => maxA imin (c.args.toList.map ρ)
    | _ => none
  | _ => none

theorem execOp_v {ρ : Operand → Value} {s : Sem Value} {v : Value} (h : s.run P w = .ok v w) : (do pure (Next.value (← s)) : Sem Next).run P w = .ok (.value v) w := by
  simp [h]

theorem reps_map {ρ : Operand → D} {ρv : Operand → Value} (l : List Operand) (hρ : ∀ x ∈ l, Rep G (ρv x) (ρ x)) : Reps G (l.map ρv) (l.map ρ) := by
  refine ⟨by simp, fun k d c hd hc => ?_⟩
  rw [List.getElem?_map] at hd hc
  cases hl : l[k]? with
  | none => simp [hl] at hd
  | some x => simp [hl] at hd hc; subst hd; subst hc; exact hρ x (List.mem_of_getElem? hl)

theorem repO_map {ρ : Operand → D} {ρv : Operand → Value} (o : Option Operand) (hρ : ∀ x, o = some x → Rep G (ρv x) (ρ x)) : RepO G (o.map ρv) (o.map ρ) := by
  cases o with
  | none => trivial
  | some x => exact hρ x rfl

theorem valA_ok {o : Oper} {ρ : Operand → D} {ρv : Operand → Value} {p : Prop} {r : D} (hl : valA P ρ H o.op = some (p, r)) (hp : p) (h : Inv W G H w)
    (hρ : ∀ x ∈ o.op.operands, Rep G (ρv x) (ρ x)) : ∃ v, (execOp ρv o).run P w = .ok (.value v) w ∧ Rep G v r := by
  obtain ⟨dst, op, ty, pos, aft, gd⟩ := o
  simp only at hl
  simp only at hρ
  cases op <;> simp only [valA] at hl
  case move x => simp at hl; obtain ⟨_, rfl⟩ := hl; exact ⟨_, by simp [execOp], hρ x (by simp [Op.operands])⟩
  case assign x => simp at hl; obtain ⟨_, rfl⟩ := hl; exact ⟨_, by simp [execOp], hρ x (by simp [Op.operands])⟩
  case pick c a b =>
    unfold pickA at hl
    split at hl
    · rename_i t ht
      have hc := hρ c (by simp [Op.operands])
      rw [ht] at hc
      have hcv := hc.inv_v
      simp at hl; obtain ⟨_, rfl⟩ := hl
      exact ⟨if t = true then ρv a else ρv b, by simp [execOp, hcv, asBool], selA_ok t (hρ a (by simp [Op.operands])) (hρ b (by simp [Op.operands]))⟩
    · cases hl
  case load t a =>
    obtain ⟨v, hv, hr⟩ := loadA_ok hl hp h (hρ a (by simp [Op.operands]))
    exact ⟨v, by simp only [execOp]; exact execOp_v (ρ := ρv) hv, hr⟩
  case nilCheck x =>
    have hx := hρ x (by simp [Op.operands])
    unfold nilCheckA at hl
    split at hl
    · rename_i a ha
      rw [ha] at hx
      have hxv := hx.inv_v
      simp at hl; obtain ⟨_, rfl⟩ := hl
      exact ⟨_, by simp [execOp, hxv], .v _⟩
    · rename_i ds hd
      rw [hd] at hx
      obtain ⟨b, q, hv, hc⟩ := hx.inv_ip
      simp at hl; obtain ⟨_, rfl⟩ := hl
      exact ⟨_, by simp [execOp, hv], Rep.mkIp hc⟩
    · rename_i f first captured ha
      rw [ha] at hx
      have hxv := hx.inv_v
      simp at hl; obtain ⟨_, rfl⟩ := hl
      exact ⟨_, by simp [execOp, hxv], .v _⟩
    · cases hl
  case binOp op t x y yt =>
    obtain ⟨v, hv, hr⟩ := binA_ok (w := w) hl hp (hρ x (by simp [Op.operands])) (hρ y (by simp [Op.operands])) x y
    exact ⟨v, by simp only [execOp]; exact execOp_v (ρ := ρv) hv, hr⟩
  case unOp op t x =>
    obtain ⟨v, hv, hr⟩ := unA_ok (w := w) (P := P) hl (hρ x (by simp [Op.operands]))
    exact ⟨v, by simp only [execOp]; exact execOp_v (ρ := ρv) hv, hr⟩
  case convert s t x =>
    obtain ⟨v, hv, hr⟩ := convA_ok (w := w) hl (hρ x (by simp [Op.operands]))
    exact ⟨v, by simp only [execOp]; exact execOp_v (ρ := ρv) hv, hr⟩
  case build t parts =>
    obtain ⟨v, hv, hr⟩ := buildA_ok (w := w) (G := G) hl (vs := parts.toList.map fun x => (x.1, ρv x.2)) (by simp [partsA]) (fun k a b ha hb => by
      simp only [partsA, List.getElem?_map] at ha hb
      cases hk : parts.toList[k]? with
      | none => rw [hk] at ha; simp at ha
      | some x => rw [hk] at ha hb; simp at ha hb; subst ha; subst hb; exact ⟨rfl, hρ _ (by simp only [Op.operands, List.mem_toArray, List.mem_map]; exact ⟨_, List.mem_of_getElem? hk, rfl⟩)⟩)
    refine ⟨v, ?_, hr⟩
    simp only [execOp]
    refine execOp_v (ρ := ρv) ?_
    rw [← hv]
    congr 2
    simp [← List.map_toArray]
  case slice t x lo hi mx =>
    obtain ⟨v, hv, hr⟩ := sliceA_ok (w := w) hl hp (hρ x (by simp [Op.operands])) (repO_map lo fun y h => hρ y (by simp [Op.operands, h])) (repO_map hi fun y h => hρ y (by simp [Op.operands, h])) (repO_map mx fun y h => hρ y (by simp [Op.operands, h]))
    exact ⟨v, by simp only [execOp]; exact execOp_v (ρ := ρv) hv, hr⟩
  case fieldAddr s x f =>
    obtain ⟨v, hv, hr⟩ := fieldAddrA_ok (w := w) hl (hρ x (by simp [Op.operands]))
    exact ⟨v, by simp only [execOp]; exact execOp_v (ρ := ρv) hv, hr⟩
  case field s x f =>
    obtain ⟨v, hv, hr⟩ := fieldA_ok (w := w) hl hp (hρ x (by simp [Op.operands]))
    exact ⟨v, by simp only [execOp]; exact execOp_v (ρ := ρv) hv, hr⟩
  case indexAddr t x i =>
    obtain ⟨v, hv, hr⟩ := indexAddrA_ok (w := w) hl hp (hρ x (by simp [Op.operands])) (hρ i (by simp [Op.operands]))
    exact ⟨v, by simp only [execOp]; exact execOp_v (ρ := ρv) hv, hr⟩
  case index t x i =>
    obtain ⟨v, hv, hr⟩ := indexA_ok (w := w) hl hp (hρ x (by simp [Op.operands])) (hρ i (by simp [Op.operands]))
    exact ⟨v, by simp only [execOp]; exact execOp_v (ρ := ρv) hv, hr⟩
  case extract x i =>
    obtain ⟨v, hv, hr⟩ := extractA_ok (w := w) (P := P) hl (hρ x (by simp [Op.operands]))
    exact ⟨v, by simp only [execOp]; exact execOp_v (ρ := ρv) hv, hr⟩
  case makeFunc fn first captured =>
    split at hl
    · rename_i a b ha hb
      simp at hl; obtain ⟨_, rfl⟩ := hl
      have h1 := litsA_ok ha (reps_map first.toList fun y h => hρ y (by simp only [Op.operands, Array.mem_append]; exact .inl (by simpa using h)))
      have h2 := litsA_ok hb (reps_map captured.toList fun y h => hρ y (by simp only [Op.operands, Array.mem_append]; exact .inr (by simpa using h)))
      have h1' : first.map ρv = a.toArray := by rw [← h1]; simp [← List.map_toArray]
      have h2' : captured.map ρv = b.toArray := by rw [← h2]; simp [← List.map_toArray]
      exact ⟨_, by simp [execOp, Instr.makeFunc, h1', h2'], .v _⟩
    · cases hl
  case call c =>
    obtain ⟨callee, args, ats⟩ := c
    simp only at hl
    split at hl
    · split at hl
      · rename_i x t hx ht
        have ha : args = #[x] := by rw [← Array.toArray_toList (xs := args), hx]
        have hat : ats = #[t] := by rw [← Array.toArray_toList (xs := ats), ht]
        subst ha; subst hat
        obtain ⟨v, hv, hr⟩ := lenA_ok (P := P) hl h (hρ x (by simp [Op.operands, Call.operands])) ty
        exact ⟨v, by simp [execOp, resolve, invoke, builtin, hv], hr⟩
      · cases hl
    · obtain ⟨v, hv, hr⟩ := max_ok (P := P) (w := w) hl (reps_map args.toList fun y h => hρ y (by simp only [Op.operands, Call.operands, Array.mem_append]; exact .inr (by simpa using h))) ats ty
      have ha : args.map ρv = (args.toList.map ρv).toArray := by simp [← List.map_toArray]
      exact ⟨v, by simp [execOp, resolve, invoke, builtin, ha, hv], hr⟩
    · obtain ⟨v, hv, hr⟩ := min_ok (P := P) (w := w) hl (reps_map args.toList fun y h => hρ y (by simp only [Op.operands, Call.operands, Array.mem_append]; exact .inr (by simpa using h))) ats ty
      have ha : args.map ρv = (args.toList.map ρv).toArray := by simp [← List.map_toArray]
      exact ⟨v, by simp [execOp, resolve, invoke, builtin, ha, hv], hr⟩
    · cases hl
  all_goals cases hl
end

end Go.Sn
namespace Go.Sn
open Go Go.RowKit
set_option linter.unusedVariables false
set_option linter.unusedSimpArgs false

abbrev Env := Nat → D

def upd (env : Env) (k : Nat) (d : D) : Env := fun j => if j = k then d else env j
theorem upd_at (env : Env) (k j : Nat) (d : D) : upd env k d j = if j = k then d else env j := rfl

/-- What an operation leaves in its slot; `N`: how many slots there are. -/
def put (N : Nat) (env : Env) : Option Tmp → D → Env
  | none, _ => env
  | some k, d => if k < N then upd env k d else env
theorem put_none (N : Nat) (env : Env) (d : D) : put N env none d = env := rfl
theorem put_some (N : Nat) (env : Env) (k : Nat) (d : D) : put N env (some k) d = if k < N then upd env k d else env := rfl

def RepEnv (G : IG) (a : Act) (env : Env) : Prop := ∀ k, Rep G (a.tmps.getD k undef) (env k)

theorem RepEnv.mono {G G' : IG} {a : Act} {env : Env} (h : RepEnv G a env) (hG : G.le G') : RepEnv G' a env := fun k => (h k).mono hG

theorem RepEnv.ev {G : IG} {a : Act} {env : Env} (h : RepEnv G a env) (x : Operand) : Rep G (a.eval x) (ev env x) := by
  cases x with
  | tmp t => exact h t
  | const v => exact rep_ofV G v
  | global g => exact .v _
  | func f => exact .v _

theorem RepEnv.put {G : IG} {a : Act} {env : Env} (h : RepEnv G a env) {x : Value} {d : D} (hx : Rep G x d) (dst : Option Tmp) :
    RepEnv G (a.put dst x) (put a.tmps.size env dst d) := by
  cases dst with
  | none => exact h
  | some t =>
    intro k
    simp only [Act.put, put_some]
    split
    · rename_i ht
      rw [upd_at]
      split
      · rename_i hk
        subst hk
        simp [ht, hx]
      · rename_i hk
        have hk' : t ≠ k := fun e => hk e.symm
        have := h k
        simp only [Array.getD_eq_getD_getElem?] at this ⊢
        rw [Array.getElem?_setIfInBounds_ne hk']
        exact this
    · rename_i ht
      rw [Array.setIfInBounds_eq_of_size_le (by omega)]
      exact h k

theorem Act.size_put (a : Act) (dst : Option Tmp) (x : Value) : (a.put dst x).tmps.size = a.tmps.size := by
  cases dst <;> simp [Act.put]
theorem Act.defers_put (a : Act) (dst : Option Tmp) (x : Value) : (a.put dst x).defers = a.defers := by
  cases dst <;> rfl

/-- A CALL, in abstract words. -/
def CallA (P : Program) (W : World) (f : FuncId) (ds : List D) (H : Heap) (Q : D → Heap → Prop) : Prop :=
  ∀ (G : IG) (vs : List Value) (w : World), Inv W G H w → Reps G vs ds →
    Calls P f vs.toArray w fun e w' => ∃ G' v d H', e = .returned v ∧ G.le G' ∧ Inv W G' H' w' ∧ Rep G' v d ∧ Q d H'

theorem CallA.mono {P : Program} {W : World} {f : FuncId} {ds : List D} {H : Heap} {Q Q' : D → Heap → Prop} (h : CallA P W f ds H Q) (hq : ∀ d H', Q d H' → Q' d H') :
    CallA P W f ds H Q' :=
  fun G vs w hi hr => (h G vs w hi hr).mono fun e w' ⟨G', v, d, H', he, hG, hI, hR, hQ⟩ => ⟨G', v, d, H', he, hG, hI, hR, hq d H' hQ⟩

/-- A call whose contract is known: what it answers, the heap as it was. -/
theorem CallA.use {P : Program} {W : World} {H : Heap} {h : FuncId} {ds : List D} {r : D} {K : D → Heap → Prop} (hc : CallA P W h ds H fun d H' => d = r ∧ H' = H) (hK : K r H) : CallA P W h ds H K :=
  hc.mono fun d H' ⟨h1, h2⟩ => by subst h1; subst h2; exact hK

/-- From `todo` on the frame of function `f` runs to its end, and what it answers is as `Q` says. -/
def RunA (P : Program) (W : World) (f : FuncId) (N : Nat) (Q : D → Heap → Prop) (todo : List Item) (env : Env) (H : Heap) : Prop :=
  ∀ (G : IG) (a : Act) (w : World) (b : Frame) (cs : List Frame), Inv W G H w → RepEnv G a env → a.tmps.size = N → a.defers = [] → b.fn = f → b.kind = .normal →
    ∃ G' w' d H' v fr, Steps P (lone (b.at a todo) cs w) (lone fr cs w') ∧ G.le G' ∧ Inv W G' H' w' ∧ Rep G' v d ∧ Q d H' ∧ fr.fn = f ∧ fr.leaving P w' (.returned v)

section
variable {P : Program} {W : World} {f : FuncId} {N : Nat} {Q : D → Heap → Prop} {k : List Item} {env : Env} {H : Heap}

theorem RunA.step {t t' : List Item} (hs : ∀ (a : Act) (w : World) (b : Frame) (cs : List Frame), step P (lone (b.at a t) cs w) = .next (lone (b.at a t') cs w))
    (h : RunA P W f N Q t' env H) : RunA P W f N Q t env H := by
  intro G a w b cs hI hE hN hd hf hk
  obtain ⟨G', w', d, H', v, fr, hS, rest⟩ := h G a w b cs hI hE hN hd hf hk
  exact ⟨G', w', d, H', v, fr, .head (hs a w b cs) hS, rest⟩

theorem run_seq {x y : Code} (h : RunA P W f N Q (.code x :: .code y :: k) env H) : RunA P W f N Q (.code (.seq x y) :: k) env H :=
  h.step fun _ _ _ _ => step_seq
theorem run_skip (h : RunA P W f N Q k env H) : RunA P W f N Q (.code .skip :: k) env H := h.step fun _ _ _ _ => step_skip
theorem run_inBlock {id : Nat} (h : RunA P W f N Q k env H) : RunA P W f N Q (.inBlock id :: k) env H := h.step fun _ _ _ _ => step_inBlock
theorem run_block {id : Nat} {c : Code} (h : RunA P W f N Q (.code c :: .inBlock id :: k) env H) : RunA P W f N Q (.code (.block id c) :: k) env H :=
  h.step fun _ _ _ _ => step_block
theorem run_inLoop {c : Code} (h : RunA P W f N Q (.code c :: .inLoop c :: k) env H) : RunA P W f N Q (.inLoop c :: k) env H := h.step fun _ _ _ _ => step_inLoop
theorem run_loop1 {c : Code} (h : RunA P W f N Q (.code c :: .inLoop c :: k) env H) : RunA P W f N Q (.code (.loop c) :: k) env H := h.step fun _ _ _ _ => step_loop
theorem run_exit {id : Nat} {k' : List Item} (hx : exitTo id k = some k') (h : RunA P W f N Q k' env H) : RunA P W f N Q (.code (.exit id) :: k) env H :=
  h.step fun _ _ _ _ => step_exit hx

theorem run_cond {c : Operand} {x y : Code} {t : Bool} (hc : ev env c = .v (.bool t)) (ht : t = true → RunA P W f N Q (.code x :: k) env H)
    (hf : t = false → RunA P W f N Q (.code y :: k) env H) : RunA P W f N Q (.code (.cond c x y) :: k) env H := by
  intro G a w b cs hI hE hN hd hfn hk
  have hv : a.eval c = .bool t := by
    have := hE.ev c
    rw [hc] at this
    exact this.inv_v
  have hr : RunA P W f N Q (.code (if t then x else y) :: k) env H := by
    cases t
    · exact hf rfl
    · exact ht rfl
  obtain ⟨G', w', d, H', v, fr, hS, rest⟩ := hr G a w b cs hI hE hN hd hfn hk
  exact ⟨G', w', d, H', v, fr, .head (step_cond hv) hS, rest⟩

theorem run_cond_t {c : Operand} {x y : Code} (hc : ev env c = .v (.bool true)) (h : RunA P W f N Q (.code x :: k) env H) : RunA P W f N Q (.code (.cond c x y) :: k) env H :=
  run_cond hc (fun _ => h) (fun e => by cases e)
theorem run_cond_f {c : Operand} {x y : Code} (hc : ev env c = .v (.bool false)) (h : RunA P W f N Q (.code y :: k) env H) : RunA P W f N Q (.code (.cond c x y) :: k) env H :=
  run_cond hc (fun e => by cases e) (fun _ => h)

/-- A LOOP: what holds at each round's head, by what is left. -/
theorem run_loop (I : Nat → Env → Heap → Prop) (n : Nat) (h0 : I n env H) {c : Code}
    (hr : ∀ n env H, (∀ m env' H', m < n → I m env' H' → RunA P W f N Q (.inLoop c :: k) env' H') → I n env H → RunA P W f N Q (.code c :: .inLoop c :: k) env H) :
    RunA P W f N Q (.code (.loop c) :: k) env H := by
  refine run_loop1 ?_
  have key : ∀ n env H, I n env H → RunA P W f N Q (.code c :: .inLoop c :: k) env H := by
    intro n
    induction n using Nat.strongRecOn with
    | _ n ih => exact fun env H hI => hr n env H (fun m env' H' hm hI' => run_inLoop (ih m hm env' H' hI')) hI
  exact key n env H h0

/-- A place where ways meet. -/
theorem run_meet (J : Env → Heap → Prop) {t : List Item} (hk : ∀ env H, J env H → RunA P W f N Q t env H) (h : J env H) : RunA P W f N Q t env H := hk env H h

/-- What we don't want to know any longer. -/
theorem run_drop {t : List Item} {H' : Heap} (hs : ∀ b r, H' b = some r → H b = some r) (h : RunA P W f N Q t env H') : RunA P W f N Q t env H :=
  fun G a w b cs hI hE hN hd hfn hk => h G a w b cs (hI.weaken hs) hE hN hd hfn hk

theorem run_env {t : List Item} {env' : Env} (hs : ∀ G x k, Rep G x (env k) → Rep G x (env' k)) (h : RunA P W f N Q t env' H) : RunA P W f N Q t env H :=
  fun G a w b cs hI hE hN hd hfn hk => h G a w b cs hI (fun k => hs G _ k (hE k)) hN hd hfn hk

/-! ### the end -/

/-- The results. -/
def resA (P : Program) (H : Heap) (env : Env) : List ResultVar → Option (Prop × List D)
  | [] => some (True, [])
  | .tmp t :: l => match resA P H env l with
    | some (p, ds) => some (p, (env t).flat :: ds)
    | none => none
  | .cell a t :: l => match loadA P H t (env a), resA P H env l with
    | some (p, d), some (p', ds) => some (p ∧ p', d.flat :: ds)
    | _, _ => none

def tupA : List D → D
  | [d] => d
  | ds => .tup ds

/-- How one result is read. -/
def resSem (tmps : Array Value) : ResultVar → Sem Value
  | .tmp t => pure (tmps.getD t undef)
  | .cell x t => Sem.bind (asAddr (tmps.getD x undef)) fun ad => loadVar t ad

theorem results_eq (fn : Func) (tmps : Array Value) :
    results fn tmps = Sem.bind (fn.results.mapM (resSem tmps)) fun vs => pure (if h : vs.size = 1 then vs[0] else .tuple vs) := by
  unfold results
  show Sem.bind _ _ = _
  congr 2

theorem resA_run {G : IG} {w : World} {a : Act} (hI : Inv W G H w) (hE : RepEnv G a env) : ∀ (l : List ResultVar) (p : Prop) (ds : List D), resA P H env l = some (p, ds) → p →
    ∃ vs : List Value, (l.mapM (resSem a.tmps)).run P w = .ok vs w ∧ Reps G vs ds
  | [], p, ds, h, hp => by
    simp [resA] at h
    obtain ⟨_, rfl⟩ := h
    exact ⟨[], by simp, Reps.nil G⟩
  | .tmp t :: l, p, ds, h, hp => by
    unfold resA at h
    split at h
    · rename_i p' ds' hl
      simp at h
      obtain ⟨hp', rfl⟩ := h
      obtain ⟨vs, hvs, hr⟩ := resA_run hI hE l p' ds' hl (by rw [hp']; exact hp)
      refine ⟨a.tmps.getD t undef :: vs, ?_, Reps.cons (hE t).flat hr⟩
      simp only [List.mapM_cons, Sem.run_bind, hvs, resSem, Sem.run_pure, Result.andThen_ok]
    · cases h
  | .cell x t :: l, p, ds, h, hp => by
    unfold resA at h
    split at h
    · rename_i p1 d1 p2 ds2 hd hl
      simp at h
      obtain ⟨hp', rfl⟩ := h
      rw [← hp'] at hp
      obtain ⟨vs, hvs, hr⟩ := resA_run hI hE l p2 ds2 hl hp.2
      obtain ⟨v, hv, hrv⟩ := loadA_ok hd hp.1 hI (hE x)
      have hptr : ∃ ad, a.tmps.getD x undef = .pointer (some ad) := by
        generalize hxv : a.tmps.getD x undef = y at hv
        simp only [Instr.loadAt, Sem.run_bind] at hv
        cases y with
        | pointer o =>
          cases o with
          | none => simp [Instr.sureAddr] at hv
          | some ad => exact ⟨ad, rfl⟩
        | _ => simp [Instr.sureAddr] at hv
      obtain ⟨ad, had⟩ := hptr
      refine ⟨v :: vs, ?_, Reps.cons hrv.flat hr⟩
      rw [had] at hv
      simp only [Instr.loadAt, Instr.sureAddr, Sem.run_bind, Sem.run_pure, Result.andThen_ok] at hv
      have h1 : (resSem a.tmps (.cell x t)).run P w = .ok v w := by
        show (Sem.bind (asAddr (a.tmps.getD x undef)) fun ad => loadVar t ad).run P w = .ok v w
        rw [had, Sem.run_bind']
        simp [asAddr, hv]
      simp only [List.mapM_cons, Sem.run_bind, hvs, h1, Sem.run_pure, Result.andThen_ok]
    · cases h

theorem run_results {G : IG} {w : World} {a : Act} {fn : Func} (hI : Inv W G H w) (hE : RepEnv G a env) {p : Prop} {ds : List D} (h : resA P H env fn.results.toList = some (p, ds)) (hp : p) :
    ∃ v, (results fn a.tmps).run P w = .ok v w ∧ Rep G v (tupA ds) := by
  obtain ⟨vs, hvs, hr⟩ := resA_run hI hE _ p ds h hp
  have hm : (fn.results.mapM (resSem a.tmps)).run P w = .ok vs.toArray w := by
    rw [Array.mapM_eq_mapM_toList, Sem.run_map, hvs]; rfl
  refine ⟨if h : vs.toArray.size = 1 then vs.toArray[0] else .tuple vs.toArray, ?_, ?_⟩
  · rw [results_eq, Sem.run_bind', hm]
    rfl
  · have hlen := hr.1
    match ds, vs, hlen, hr with
    | [], [], _, hr => exact Rep.mkTup hr
    | [d], [v], _, hr => simpa [tupA] using hr.2 0 d v rfl rfl
    | d :: d' :: ds, v :: v' :: vs, _, hr =>
      rw [dif_neg (by simp)]
      exact Rep.mkTup hr

/-- A part of the heap. -/
def Heap.sub (H' H : Heap) : Prop := ∀ b r, H' b = some r → H b = some r
theorem Heap.sub_refl (H : Heap) : H.sub H := fun _ _ h => h
theorem Heap.sub_set {H K : Heap} {b : Nat} {r : Res} (h : H.sub K) (hb : K b = none) : H.sub (K.set b r) := by
  intro c s hc
  have hcb : c ≠ b := by
    intro e; subst e
    rw [h c s hc] at hb; cases hb
  rw [Heap.set_other _ _ hcb]
  exact h c s hc
theorem Heap.sub_set2 {H K : Heap} {b : Nat} {r : Res} (h : H.sub K) (hb : H b = none) : H.sub (K.set b r) := by
  intro c s hc
  have hcb : c ≠ b := by
    intro e; subst e
    rw [hc] at hb; cases hb
  rw [Heap.set_other _ _ hcb]
  exact h c s hc
theorem Heap.set_none {H : Heap} {b k : Nat} {r : Res} : (H.set b r) k = none ↔ k ≠ b ∧ H k = none := by
  rw [Heap.set_at]; split <;> simp_all
theorem Heap.set_none' {H : Heap} {b k : Nat} {r : Res} : (H.set b r) k = none ↔ (k ≠ b ∧ b ≠ k) ∧ H k = none := by
  rw [Heap.set_none]; constructor
  · rintro ⟨h, k⟩; exact ⟨⟨h, fun e => h e.symm⟩, k⟩
  · rintro ⟨⟨h, _⟩, k⟩; exact ⟨h, k⟩
theorem Heap.ne_of_none {H : Heap} {b : Nat} (h : H b = none) : ∀ c, (H c).isSome = true → (c = b) = False ∧ (b = c) = False := by
  intro c hc
  have hne : c ≠ b := fun e => by subst e; rw [h] at hc; cases hc
  exact ⟨eq_false hne, eq_false fun e => hne e.symm⟩
theorem Heap.sub.trans {A B C : Heap} (h : A.sub B) (k : B.sub C) : A.sub C := fun b r hb => k b r (h b r hb)

theorem run_end {fn : Func} (hf : P.funcs[f]? = some fn) {R : List ResultVar} (hR : fn.results = R.toArray) {p : Prop} {ds : List D} (h : resA P H env R = some (p, ds)) (hp : p) {H' : Heap}
    (hs : H'.sub H) (hq : Q (tupA ds) H') : RunA P W f N Q [] env H := by
  replace hR : fn.results.toList = R := by rw [hR]
  subst hR
  intro G a w b cs hI hE hN hd hfn hk
  obtain ⟨v, hv, hr⟩ := run_results (fn := fn) hI hE h hp
  exact ⟨G, w, tupA ds, H', v, _, .one step_end, .refl G, hI.weaken hs, hr, hq, hfn, rfl, hd, hk, fn, by show P.funcs[b.fn]? = some fn; rw [hfn]; exact hf, hv⟩

theorem run_ret {fn : Func} (hf : P.funcs[f]? = some fn) {R : List ResultVar} (hR : fn.results = R.toArray) {p : Prop} {ds : List D} (h : resA P H env R = some (p, ds)) (hp : p) {H' : Heap}
    (hs : H'.sub H) (hq : Q (tupA ds) H') : RunA P W f N Q (.code .ret :: k) env H := by
  replace hR : fn.results.toList = R := by rw [hR]
  subst hR
  intro G a w b cs hI hE hN hd hfn hk
  obtain ⟨v, hv, hr⟩ := run_results (fn := fn) hI hE h hp
  exact ⟨G, w, tupA ds, H', v, _, .one step_ret, .refl G, hI.weaken hs, hr, hq, hfn, rfl, hd, hk, fn, by show P.funcs[b.fn]? = some fn; rw [hfn]; exact hf, hv⟩

/-! ### the beginning -/

/-- The slots as a call begins. -/
def env0 (ds : List D) : Env := fun k => ds.getD k (.v undef)

theorem call_of_run {fn : Func} (hf : P.funcs[f]? = some fn) {c : Code} (hb : fn.body = some c) {ds : List D} (hN : ds.length ≤ fn.ntmps)
    (h : RunA P W f fn.ntmps Q [.code c] (env0 ds) H) : CallA P W f ds H Q := by
  intro G vs w hI hR cs
  have hlen : vs.length = ds.length := hR.1
  let b : Frame := { (default : Frame) with fn := f, kind := .normal }
  let a : Act := { tmps := vs.toArray ++ Array.replicate (fn.ntmps - vs.toArray.size) undef, defers := [] }
  have henter : Frame.enter P f vs.toArray .normal = b.at a [.code c] := by
    simp [Frame.enter, Frame.at, hf, hb, b, a]
  have hE : RepEnv G a (env0 ds) := by
    intro k
    show Rep G ((vs.toArray ++ Array.replicate (fn.ntmps - vs.toArray.size) undef).getD k undef) (ds.getD k (.v undef))
    by_cases hk : k < ds.length
    · have hk' : k < vs.length := by omega
      have h1 : (vs.toArray ++ Array.replicate (fn.ntmps - vs.toArray.size) undef).getD k undef = vs[k] := by
        simp [Array.getD_eq_getD_getElem?, Array.getElem?_append, hk']
      rw [h1]
      have h2 : ds.getD k (.v undef) = ds[k] := by simp [List.getD, List.getElem?_eq_getElem hk]
      rw [h2]
      exact hR.2 k _ _ (List.getElem?_eq_getElem hk) (List.getElem?_eq_getElem hk')
    · have hk' : ¬ k < vs.length := by omega
      have h1 : (vs.toArray ++ Array.replicate (fn.ntmps - vs.toArray.size) undef).getD k undef = undef := by
        simp only [Array.getD_eq_getD_getElem?, Array.getElem?_append, List.size_toArray, if_neg hk', Array.getElem?_replicate]
        split <;> rfl
      rw [h1]
      have h2 : ds.getD k (.v undef) = .v undef := by simp [List.getD, List.getElem?_eq_none (Nat.not_lt.1 hk)]
      rw [h2]
      exact .v _
  obtain ⟨G', w', d, H', v, fr, hS, hG, hI', hR', hQ, hfn, hl⟩ := h G a w b cs hI hE (by simp [a]; omega) rfl rfl rfl
  rw [← henter] at hS
  exact ⟨.returned v, w', fr, ⟨G', v, d, H', rfl, hG, hI', hR', hQ⟩, hS, hfn, hl⟩

theorem call_in {fn : Func} (hf : P.funcs[f]? = some fn) {c : Code} (hb : fn.body = some c) (hN : fn.ntmps = N) {ds : List D} (hl : ds.length ≤ N)
    (h : RunA P W f N Q [.code c] (env0 ds) H) : CallA P W f ds H Q := by
  subst hN
  exact call_of_run hf hb hl h
end
end Go.Sn
namespace Go.Sn
open Go Go.RowKit
set_option linter.unusedVariables false
set_option linter.unusedSimpArgs false

/-- What a region's rest leaves. -/
def After (P : Program) (W : World) (f : FuncId) (N : Nat) (Q : D → Heap → Prop) (k : List Item) (G : IG) : Exit → Act → World → Prop :=
  fun e a' w' => e = .normal ∧ ∃ G' env' H', G.le G' ∧ Inv W G' H' w' ∧ RepEnv G' a' env' ∧ a'.tmps.size = N ∧ a'.defers = [] ∧ RunA P W f N Q k env' H'

theorem After.le {P : Program} {W : World} {f : FuncId} {N : Nat} {Q : D → Heap → Prop} {k : List Item} {G G0 : IG} (h0 : G0.le G) {e : Exit} {a : Act} {w : World}
    (h : After P W f N Q k G e a w) : After P W f N Q k G0 e a w := by
  obtain ⟨he, G', env', H', hG, rest⟩ := h
  exact ⟨he, G', env', H', h0.trans hG, rest⟩

/-- The operations `l` of a region are still to be done, in this order, then `k`. -/
def RunO (P : Program) (W : World) (f : FuncId) (N : Nat) (Q : D → Heap → Prop) (ops : Array Oper) (l : List Oper) (k : List Item) (env : Env) (H : Heap) : Prop :=
  ∀ (is : List Nat), is.map (ops[·]?) = l.map some → ∀ (G : IG) (a : Act) (w : World), Inv W G H w → RepEnv G a env → a.tmps.size = N → a.defers = [] →
    wpOps P ops (After P W f N Q k G) is a w

/-- What one operation does: a value, a skip, a call. -/
def OpOk (P : Program) (W : World) (o : Oper) (ρ : Operand → D) (H : Heap) (K : D → Heap → Prop) : Prop :=
  ∀ (G : IG) (a : Act) (w : World) (next : Act → World → Prop) (Qx : Exit → Act → World → Prop), Inv W G H w → (∀ x ∈ o.op.operands, Rep G (a.eval x) (ρ x)) →
    (∀ v d H' G' w', G.le G' → Inv W G' H' w' → Rep G' v d → K d H' → next (a.put o.dst v) w') → o.wp P a w next Qx

section
variable {P : Program} {W : World} {f : FuncId} {N : Nat} {Q : D → Heap → Prop} {ops : Array Oper} {l : List Oper} {o : Oper} {k : List Item} {env : Env} {H : Heap}

theorem OpOk.mono {ρ : Operand → D} {K K' : D → Heap → Prop} (h : OpOk P W o ρ H K) (hk : ∀ d H', K d H' → K' d H') : OpOk P W o ρ H K' :=
  fun G a w next Qx hI hρ hn => h G a w next Qx hI hρ fun v d H' G' w' h1 h2 h3 h4 => hn v d H' G' w' h1 h2 h3 (hk d H' h4)

theorem wp_mono_next {a : Act} {w : World} {n1 n2 : Act → World → Prop} {Q1 Q2 : Exit → Act → World → Prop} (h : o.wp P a w n1 Q1) (hn : ∀ a w, n1 a w → n2 a w)
    (hq : ∀ e a w, Q1 e a w → Q2 e a w) : o.wp P a w n2 Q2 := by
  unfold Oper.wp Oper.upon at h ⊢
  split at h
  all_goals (try simp only)
  · exact hn _ _ h
  · exact hn _ _ h
  · exact hn _ _ h
  · refine h.mono fun e w' hR => ?_
    cases e with
    | returned v => exact hn _ _ hR
    | panicked ch => exact hq _ _ _ hR
    | outgrown => obtain ⟨a0, w0, hx⟩ := hR; exact ⟨a0, w0, hq _ _ _ hx⟩
  · exact h.mono fun v w' hR => hn _ _ hR
  · exact hq _ _ _ h
  · exact h.elim

theorem runO_drop {H' : Heap} (hs : H'.sub H) (h : RunO P W f N Q ops l k env H') : RunO P W f N Q ops l k env H :=
  fun is his G a w hI hE hN hd => h is his G a w (hI.weaken hs) hE hN hd

theorem wpOps_mono {Q1 Q2 : Exit → Act → World → Prop} (hq : ∀ e a w, Q1 e a w → Q2 e a w) : ∀ (is : List Nat) (a : Act) (w : World), wpOps P ops Q1 is a w → wpOps P ops Q2 is a w
  | [], a, w, h => hq _ _ _ h
  | i :: is, a, w, h => by
    simp only [wpOps] at h ⊢
    cases ho : ops[i]? with
    | none => simp only [ho] at h ⊢; exact wpOps_mono hq is _ _ h
    | some o =>
      simp only [ho] at h ⊢
      split at h
      · rename_i hw
        rw [if_pos hw]
        rcases h with h | ⟨ha, a0, w0, hx⟩
        · exact .inl (wp_mono_next h (fun a w hh => wpOps_mono hq is a w hh) hq)
        · exact .inr ⟨ha, a0, w0, hq _ _ _ hx⟩
      · rename_i hw
        rw [if_neg hw]
        exact wpOps_mono hq is _ _ h

theorem runO_nil (h : RunA P W f N Q k env H) : RunO P W f N Q ops [] k env H := by
  intro is his G a w hI hE hN hd
  have : is = [] := by simpa using his
  subst this
  exact ⟨rfl, G, env, H, .refl G, hI, hE, hN, hd, h⟩

theorem run_region {id : Nat} (h : RunO P W f N Q ops ops.toList k env H) : RunA P W f N Q (.code (.region id ops false) :: k) env H := by
  intro G a w b cs hI hE hN hd hfn hk
  have hw := h (List.range ops.size) (by
    apply List.ext_getElem?
    intro i
    simp only [List.getElem?_map, List.getElem?_range, Array.getElem?_toList]
    by_cases hi : i < ops.size
    · rw [List.getElem?_range hi]; simp [hi]
    · rw [List.getElem?_eq_none (by simpa using hi), Array.getElem?_eq_none (by omega)]; rfl) G a w hI hE hN hd
  obtain ⟨e, a', w', ⟨rfl, G1, env1, H1, hG1, hI1, hE1, hN1, hd1, hrun⟩, harr⟩ := wp_ops _ a w hw b k cs
  obtain ⟨G', w2, d, H', v, fr, hS, hG, rest⟩ := hrun G1 a' w' b cs hI1 hE1 hN1 hd1 hfn hk
  exact ⟨G', w2, d, H', v, fr, .head step_region (Steps.trans harr hS), hG1.trans hG, rest⟩

/-- One operation without a guard. -/
theorem runO_op (hg : o.guard = none) (h : OpOk P W o (ev env) H fun d H' => RunO P W f N Q ops l k (put N env o.dst d) H') : RunO P W f N Q ops (o :: l) k env H := by
  intro is his G a w hI hE hN hd
  match is, his with
  | i :: is, his =>
    simp only [List.map_cons, List.cons.injEq] at his
    simp only [wpOps, his.1]
    rw [if_pos (by simp [Region.wanted, hg])]
    refine .inl (h G a w _ _ hI (fun x _ => hE.ev x) fun v d H' G' w' hG hI' hR hrun => ?_)
    refine wpOps_mono (fun e a w hh => hh.le hG) is _ _ (hrun is his.2 G' _ w' hI' ?_ (by rw [Act.size_put]; exact hN) (by rw [Act.defers_put]; exact hd))
    rw [← hN]
    exact (hE.mono hG).put hR _

theorem opOk_val {ρ : Operand → D} {K : D → Heap → Prop} {p : Prop} {r : D} (hv : valA P ρ H o.op = some (p, r)) (hp : p) (hK : K r H) : OpOk P W o ρ H K := by
  intro G a w next Qx hI hρ hn
  obtain ⟨v, hrun, hr⟩ := valA_ok (o := o) (ρv := a.eval) hv hp hI hρ
  unfold Oper.wp
  rw [hrun]
  exact hn v r H G w (.refl G) hI hr hK

/-! ### guards -/

/-- A test's answer, as it is wanted. -/
def cdB (g t : Bool) : Bool := match g with
  | true => t
  | false => !t
theorem cdB_t (t : Bool) : cdB true t = t := rfl
theorem cdB_f (t : Bool) : cdB false t = !t := rfl

/-- What must hold where an operation's guard lets it by: of a test reckoned under guards of its own, those too. -/
def condsD (g : Bool) : D → Option (List Bool)
  | .v (.bool t) => some [cdB g t]
  | .gd c d => match condsD g d with
    | some l => some (c :: l)
    | none => none
  | _ => none

def guardA (ops : Array Oper) (env : Env) (j : Nat) (g : Bool) : Option (List Bool) :=
  match ops[j]? with
  | some o => match o.dst with
    | some t => condsD g (env t)
    | none => none
  | none => none

def allT : List Bool → Prop
  | [] => True
  | c :: cs => c = true ∧ allT cs

def wrapL : List Bool → D → D
  | [], d => d
  | c :: cs, d => .gd c (wrapL cs d)

/-- A value as it is known where `c` holds. -/
def strip1 (c : Bool) : D → D
  | .gd c' d => if (c == c') = true then d else .gd c' d
  | d => d
def stripL : List Bool → D → D
  | [], d => d
  | c :: cs, d => stripL cs (strip1 c d)

theorem Rep.strip1 {G : IG} {x : Value} {d : D} (h : Rep G x d) {c : Bool} (hc : c = true) : Rep G x (strip1 c d) := by
  unfold Sn.strip1
  split
  · rename_i c' d'
    split
    · rename_i e
      simp at e
      exact h.inv_gd (e ▸ hc)
    · exact h
  · exact h
theorem Rep.stripL {G : IG} {x : Value} : ∀ {cs : List Bool} {d : D}, Rep G x d → allT cs → Rep G x (stripL cs d)
  | [], d, h, _ => h
  | c :: cs, d, h, ha => Rep.stripL (cs := cs) (Rep.strip1 h ha.1) ha.2
theorem Rep.wrapT {G : IG} {x : Value} {d : D} (h : Rep G x d) : ∀ (cs : List Bool), allT cs → Rep G x (wrapL cs d)
  | [], _ => h
  | c :: cs, ha => by
    obtain ⟨rfl, ha⟩ := ha
    exact .gdT x _ (Rep.wrapT h cs ha)
theorem Rep.wrapF {G : IG} {d : D} : ∀ (cs : List Bool), ¬ allT cs → Rep G undef (wrapL cs d)
  | [], h => absurd trivial h
  | c :: cs, h => by
    cases c
    · exact .gdF _
    · exact .gdT undef _ (Rep.wrapF cs (fun hh => h ⟨rfl, hh⟩))

theorem condsD_ok {G : IG} {g : Bool} {x : Value} : ∀ (d : D) (cs : List Bool), condsD g d = some cs → Rep G x d → allT cs → x = .bool g
  | .v y, cs, h, hx, ha => by
    unfold condsD at h
    split at h
    · rename_i t e
      cases e
      cases h
      cases hx.inv_v
      have := ha.1
      cases g <;> simp [cdB] at this <;> simp [this]
    · rename_i e; cases e
    · cases h
  | .gd c d, cs, h, hx, ha => by
    simp only [condsD] at h
    split at h
    · rename_i l hl
      cases h
      exact condsD_ok d l hl (hx.inv_gd ha.1) ha.2
    · cases h
  | .nil, cs, h, _, _ => by simp [condsD] at h
  | .list _, cs, h, _, _ => by simp [condsD] at h
  | .own _ _ _, cs, h, _, _ => by simp [condsD] at h
  | .ip _, cs, h, _, _ => by simp [condsD] at h
  | .agg _, cs, h, _, _ => by simp [condsD] at h
  | .tup _, cs, h, _, _ => by simp [condsD] at h

theorem condsD_no {G : IG} {g : Bool} {x : Value} : ∀ (d : D) (cs : List Bool), condsD g d = some cs → Rep G x d → ¬ allT cs → x ≠ .bool g
  | .v y, cs, h, hx, ha => by
    unfold condsD at h
    split at h
    · rename_i t e
      cases e
      cases h
      cases hx.inv_v
      cases g <;> cases t <;> simp [cdB, allT] at ha ⊢
    · rename_i e; cases e
    · cases h
  | .gd c d, cs, h, hx, ha => by
    simp only [condsD] at h
    split at h
    · rename_i l hl
      cases h
      cases hx with
      | gdF => simp [undef]
      | gdT _ _ hr => exact condsD_no d l hl hr (fun hh => ha ⟨rfl, hh⟩)
    · cases h
  | .nil, cs, h, _, _ => by simp [condsD] at h
  | .list _, cs, h, _, _ => by simp [condsD] at h
  | .own _ _ _, cs, h, _, _ => by simp [condsD] at h
  | .ip _, cs, h, _, _ => by simp [condsD] at h
  | .agg _, cs, h, _, _ => by simp [condsD] at h
  | .tup _, cs, h, _, _ => by simp [condsD] at h

theorem guardA_F {G : IG} {a : Act} {j : Nat} {g : Bool} {cs : List Bool} (hE : RepEnv G a env) (h : guardA ops env j g = some cs) (ha : ¬ allT cs) : yielded ops a.tmps j ≠ some g := by
  unfold guardA at h
  split at h
  · rename_i o ho
    split at h
    · rename_i t ht
      have hv := condsD_no _ _ h (hE t) ha
      intro hy
      simp only [yielded, ho, ht, Option.bind_some] at hy
      split at hy
      · rename_i b hb
        cases hy
        apply hv
        simp [Array.getD_eq_getD_getElem?, hb]
      · cases hy
    · cases h
  · cases h

theorem guardA_T {G : IG} {a : Act} {j : Nat} {g : Bool} {cs : List Bool} (hE : RepEnv G a env) (h : guardA ops env j g = some cs) (ha : allT cs) : yielded ops a.tmps j = some g := by
  unfold guardA at h
  split at h
  · rename_i o ho
    split at h
    · rename_i t ht
      have hv := condsD_ok _ _ h (hE t) ha
      have hlt : t < a.tmps.size := by
        rcases Nat.lt_or_ge t a.tmps.size with h' | h'
        · exact h'
        · simp [Array.getD_eq_getD_getElem?, Array.getElem?_eq_none h', undef] at hv
      have hg : a.tmps[t]? = some (.bool g) := by
        simp [Array.getD_eq_getD_getElem?, hlt] at hv
        simp [hlt, hv]
      simp [yielded, ho, ht, hg]
    · cases h
  · cases h

/-- One step of a region that leaves the heap alone: under which condition, and to which slots. -/
def stepV (P : Program) (N : Nat) (ops : Array Oper) (env : Env) (H : Heap) (o : Oper) : Option (Prop × Env) :=
  match o.guard with
  | none => match valA P (ev env) H o.op with
    | some (p, d) => some (p, put N env o.dst d)
    | none => none
  | some (j, g) => match guardA ops env j g with
    | some cs => match valA P (fun x => stripL cs (ev env x)) H o.op with
      | some (p, d) => some (allT cs → p, put N env o.dst (wrapL cs d))
      | none => none
    | none => none

theorem wpOps_skip {i : Nat} {is : List Nat} {a : Act} {w : World} {Qx : Exit → Act → World → Prop} (ho : ops[i]? = some o) (hw : ¬ Region.wanted o (yielded ops a.tmps) = true)
    (h : wpOps P ops Qx is (a.put o.dst undef) w) : wpOps P ops Qx (i :: is) a w := by
  simp only [wpOps, ho]
  rw [if_neg hw]
  exact h

/-- An operation under a guard: where it is let by it does as `h` says and leaves the heap alone. -/
theorem runO_guarded {j : Nat} {g : Bool} (hg : o.guard = some (j, g)) {cs : List Bool} (ht : guardA ops env j g = some cs) {d : D}
    (h : allT cs → OpOk P W o (fun x => stripL cs (ev env x)) H fun d' H' => d' = d ∧ H' = H) (hr : RunO P W f N Q ops l k (put N env o.dst (wrapL cs d)) H) :
    RunO P W f N Q ops (o :: l) k env H := by
  intro is his G a w hI hE hN hd
  match is, his with
  | i :: is, his =>
    simp only [List.map_cons, List.cons.injEq] at his
    by_cases hw : Region.wanted o (yielded ops a.tmps) = true
    · simp only [wpOps, his.1]
      rw [if_pos hw]
      by_cases hc : allT cs
      · refine .inl (h hc G a w _ _ hI (fun x _ => (hE.ev x).stripL hc) fun v d' H' G' w' hG hI' hR hK => ?_)
        obtain ⟨rfl, rfl⟩ := hK
        refine wpOps_mono (fun e a w hh => hh.le hG) is _ _ (hr is his.2 G' _ w' hI' ?_ (by rw [Act.size_put]; exact hN) (by rw [Act.defers_put]; exact hd))
        rw [← hN]
        exact (hE.mono hG).put (hR.wrapT cs hc) _
      · exact absurd hw (by simp [Region.wanted, hg, guardA_F hE ht hc])
    · refine wpOps_skip his.1 hw (hr is his.2 G _ w hI ?_ (by rw [Act.size_put]; exact hN) (by rw [Act.defers_put]; exact hd))
      rw [← hN]
      exact hE.put (Rep.wrapF cs fun hc => hw (by simp [Region.wanted, hg, guardA_T hE ht hc])) _

theorem runO_stepV {p : Prop} {env' : Env} (h : stepV P N ops env H o = some (p, env')) (hp : p) (hr : RunO P W f N Q ops l k env' H) : RunO P W f N Q ops (o :: l) k env H := by
  unfold stepV at h
  split at h
  · rename_i hg
    split at h
    · rename_i p' d hv
      simp at h
      obtain ⟨hp', rfl⟩ := h
      exact runO_op hg (opOk_val hv (by rw [hp']; exact hp) hr)
    · cases h
  · rename_i j g hg
    split at h
    · rename_i cs ht
      split at h
      · rename_i p' d hv
        simp at h
        obtain ⟨hp', rfl⟩ := h
        rw [← hp'] at hp
        exact runO_guarded hg ht (fun hc => opOk_val hv (hp hc) ⟨rfl, rfl⟩) hr
      · cases h
    · cases h

/-- As far as the heap is left alone. -/
def Go (P : Program) (W : World) (f : FuncId) (N : Nat) (Q : D → Heap → Prop) (ops : Array Oper) (k : List Item) (H : Heap) : List Oper → Env → Prop
  | [], env => RunA P W f N Q k env H
  | o :: l, env => match stepV P N ops env H o with
    | some (p, env') => p ∧ Go P W f N Q ops k H l env'
    | none => RunO P W f N Q ops (o :: l) k env H

theorem runO_go : ∀ (l : List Oper) (env : Env), Go P W f N Q ops k H l env → RunO P W f N Q ops l k env H
  | [], env, h => runO_nil h
  | o :: l, env, h => by
    unfold Go at h
    split at h
    · rename_i p env' hs
      exact runO_stepV hs h.1 (runO_go l env' h.2)
    · exact h

theorem run_go {id : Nat} {l : List Oper} (h : Go P W f N Q l.toArray k H l env) : RunA P W f N Q (.code (.region id l.toArray false) :: k) env H :=
  run_region (by simpa using runO_go l env h)

/-! ### operations that make, write, call -/

theorem opOk_alloc {ρ : Operand → D} {K : D → Heap → Prop} {t : TypeId} {z : List D} (ho : o.op = .alloc t) (hz : zeroT P t = some z)
    (hK : ∀ b, H b = none → K (.v (.pointer (some ⟨b, 0, none⟩))) (H.set b (.cells z t))) : OpOk P W o ρ H K := by
  intro G a w next Qx hI hρ hn
  obtain ⟨x, hx, hr, h1⟩ := zeroT_run (w := w) (G := G) hz
  have hrun : (execOp a.eval o).run P w = .ok (.value (.pointer (some ⟨w.heap.size, 0, none⟩))) (w.alloc (.cells x.cells t)) := by
    simp [execOp, ho, Instr.alloc, hx, newVar, newRow]
  unfold Oper.wp
  rw [hrun]
  exact hn _ _ _ G _ (.refl G) (hI.allocCells x.cells.toList z t hr h1) (.v _) (hK _ (hI.fresh (Nat.le_refl _)))

theorem opOk_box {ρ : Operand → D} {K : D → Heap → Prop} {t : TypeId} {x : Operand} (ho : o.op = .box t x) (hs : (ρ x).stor = true)
    (hK : ∀ b, H b = none → K (.v (.pointer (some ⟨b, 0, none⟩))) (H.set b (.cells (ρ x).cells t))) : OpOk P W o ρ H K := by
  intro G a w next Qx hI hρ hn
  obtain ⟨hr, h1⟩ := (hρ x (by simp [ho, Op.operands])).stor hs
  have hrun : (execOp a.eval o).run P w = .ok (.value (.pointer (some ⟨w.heap.size, 0, none⟩))) (w.alloc (.cells (a.eval x).cells t)) := by
    simp [execOp, ho, Instr.box, newVar, newRow]
  unfold Oper.wp
  rw [hrun]
  exact hn _ _ _ G _ (.refl G) (hI.allocCells (a.eval x).cells.toList (ρ x).cells t hr h1) (.v _) (hK _ (hI.fresh (Nat.le_refl _)))

theorem opOk_store {ρ : Operand → D} {K : D → Heap → Prop} {t n : Nat} {p x : Operand} {b off : Nat} {ds : List D} {e : TypeId} (ho : o.op = .store t p x) (hsz : szT P t = some n)
    (hp : ρ p = .v (.pointer (some ⟨b, off, none⟩))) (hb : H b = some (.cells ds e)) (hs : (ρ x).stor = true) (hlen : (ρ x).cells.length = n) (hle : off + n ≤ ds.length)
    (hK : K (.v undef) (H.set b (.cells (ds.take off ++ (ρ x).cells ++ ds.drop (off + n)) e))) : OpOk P W o ρ H K := by
  intro G a w next Qx hI hρ hn
  obtain ⟨hr, h1⟩ := (hρ x (by simp [ho, Op.operands])).stor hs
  obtain ⟨hWb, cs, hcs, hrc, hc1, hG⟩ := hI.res b _ hb
  have hpv : a.eval p = .pointer (some ⟨b, off, none⟩) := by have := hρ p (by simp [ho, Op.operands]); rw [hp] at this; exact this.inv_v
  have hl1 : (a.eval x).cells.toList.length = n := by rw [hr.1]; exact hlen
  have hcl : cs.length = ds.length := hrc.1
  have hst := run_storeCells_at P b off e (a.eval x).cells.toList 0 cs.toArray w hcs (by simp at hl1 ⊢; omega) h1
  simp only [Nat.add_zero] at hst
  have hrun : (execOp a.eval o).run P w = .ok .skip (w.setRow b (cs.take off ++ (a.eval x).cells.toList ++ cs.drop (off + n)).toArray) := by
    simp only [execOp, ho, Instr.storeAt, hpv, Instr.sureAddr, storeVar, Sem.run_bind, Sem.run_pure, Result.andThen_ok, run_szT hsz]
    rw [if_neg (by simp at hl1; simp [hl1])]
    simp only [hst, Result.andThen_ok, Sem.run_pure, Sem.run_bind]
    rw [hl1]
  unfold Oper.wp
  rw [hrun]
  refine hn undef (.v undef) _ G _ (.refl G) (hI.setRow hb _ (((hrc.take off).append hr).append (hrc.drop (off + n))) ?_) (.v _) hK
  intro c hc
  simp only [List.mem_append] at hc
  rcases hc with (hc | hc) | hc
  · exact hc1 c (List.mem_of_mem_take hc)
  · exact h1 c hc
  · exact hc1 c (List.mem_of_mem_drop hc)

/-- A call of a function of the text's. -/
theorem opOk_call {ρ : Operand → D} {K : D → Heap → Prop} {c : Call} {g : Operand} {h : FuncId} {first captured : Array Value} (ho : o.op = .call c) (hc : c.callee = .value g)
    (hg : ρ g = .v (.func (.func h) first captured)) {fn : Func} (hf : P.funcs[h]? = some fn) (hb : fn.body.isSome = true) (hnm : (fn.name == "runtime.NumGoroutine") = false)
    (hK : CallA P W h (first.toList.map .v ++ c.args.toList.map (fun x => (ρ x).flat) ++ captured.toList.map .v) H K) : OpOk P W o ρ H K := by
  intro G a w next Qx hI hρ hn
  have hgv : a.eval g = .func (.func h) first captured := by have := hρ g (by simp [ho, Op.operands, Call.operands, hc]); rw [hg] at this; exact this.inv_v
  have hbn : fn.body ≠ none := by intro e; simp [e] at hb
  have hnm' : fn.name ≠ "runtime.NumGoroutine" := by simpa using hnm
  have hrun : (execOp a.eval o).run P w = .ok (.enter h (first ++ c.args.map a.eval ++ captured)) w := by
    obtain ⟨callee, args, ats⟩ := c
    simp only at hc
    subst hc
    simp [execOp, ho, resolve, hgv, Deferred.ofValue, invoke, callFunc, hf, hbn, hnm']
  unfold Oper.wp
  rw [hrun]
  show Calls P h _ w _
  have hargs : first ++ c.args.map a.eval ++ captured = (first.toList ++ c.args.toList.map a.eval ++ captured.toList).toArray := by
    simp [← List.map_toArray]
  rw [hargs]
  refine (hK G _ w hI (((Reps.self G first.toList).append ?_).append (Reps.self G captured.toList))).mono ?_
  · exact reps_map (ρ := fun x => (ρ x).flat) c.args.toList (fun x hx => (hρ x (by simp only [ho, Op.operands, Call.operands, Array.mem_append]; exact .inr (by simpa using hx))).flat)
  · rintro e w' ⟨G', v, d, H', rfl, hG, hI', hR, hQ⟩
    exact hn v d H' G' w' hG hI' hR hQ

/-- A function that there is, with a body: closed facts, one a function. -/
structure Known (P : Program) (h : FuncId) : Prop where
  known : ∃ fn, P.funcs[h]? = some fn ∧ fn.body.isSome = true ∧ (fn.name == "runtime.NumGoroutine") = false

theorem runO_call {c : Call} {h : FuncId} {first captured : Array Value} (hg : o.guard = none) (ho : o.op = .call c) {g : Operand} (hc : c.callee = .value g)
    (hv : ev env g = .v (.func (.func h) first captured)) (hk : Known P h)
    (hK : CallA P W h (first.toList.map .v ++ c.args.toList.map (fun x => (ev env x).flat) ++ captured.toList.map .v) H fun d H' => RunO P W f N Q ops l k (put N env o.dst d) H') :
    RunO P W f N Q ops (o :: l) k env H := by
  obtain ⟨fn, h1, h2, h3⟩ := hk.known
  exact runO_op hg (opOk_call ho hc hv h1 h2 h3 hK)

section lits
variable {dst : Option Tmp} {ty : TypeId} {pos : String} {aft : Array Edge}

theorem runO_box {t : TypeId} {x : Operand} (hs : (ev env x).stor = true)
    (h : ∀ b, H b = none → RunO P W f N Q ops l k (put N env dst (.v (.pointer (some ⟨b, 0, none⟩)))) (H.set b (.cells (ev env x).cells t))) :
    RunO P W f N Q ops (⟨dst, .box t x, ty, pos, aft, none⟩ :: l) k env H := runO_op rfl (opOk_box rfl hs h)

theorem runO_alloc {t : TypeId} {z : List D} (hz : zeroT P t = some z)
    (h : ∀ b, H b = none → RunO P W f N Q ops l k (put N env dst (.v (.pointer (some ⟨b, 0, none⟩)))) (H.set b (.cells z t))) :
    RunO P W f N Q ops (⟨dst, .alloc t, ty, pos, aft, none⟩ :: l) k env H := runO_op rfl (opOk_alloc rfl hz h)

theorem runO_store {t n : Nat} {p x : Operand} {b off : Nat} {ds : List D} {e : TypeId} (hsz : szT P t = some n)
    (hp : ev env p = .v (.pointer (some ⟨b, off, none⟩))) (hb : H b = some (.cells ds e)) (hs : (ev env x).stor = true) (hlen : (ev env x).cells.length = n) (hle : off + n ≤ ds.length)
    (h : RunO P W f N Q ops l k (put N env dst (.v undef)) (H.set b (.cells (ds.take off ++ (ev env x).cells ++ ds.drop (off + n)) e))) :
    RunO P W f N Q ops (⟨dst, .store t p x, ty, pos, aft, none⟩ :: l) k env H := runO_op rfl (opOk_store rfl hsz hp hb hs hlen hle h)

theorem runO_callF {h : FuncId} {args : Array Operand} {ats : Array TypeId} (hk : Known P h)
    (hK : CallA P W h (args.toList.map (fun x => (ev env x).flat)) H fun d H' => RunO P W f N Q ops l k (put N env dst d) H') :
    RunO P W f N Q ops (⟨dst, .call ⟨.value (.func h), args, ats⟩, ty, pos, aft, none⟩ :: l) k env H :=
  runO_call (first := #[]) (captured := #[]) rfl rfl rfl rfl hk (by simpa using hK)

theorem runO_callFG {h : FuncId} {args : Array Operand} {ats : Array TypeId} {j : Nat} {g : Bool} {cs : List Bool} (hk : Known P h) (ht : guardA ops env j g = some cs) {d : D}
    (hK : allT cs → CallA P W h (args.toList.map (fun x => (stripL cs (ev env x)).flat)) H fun d' H' => d' = d ∧ H' = H)
    (hr : RunO P W f N Q ops l k (put N env dst (wrapL cs d)) H) :
    RunO P W f N Q ops (⟨dst, .call ⟨.value (.func h), args, ats⟩, ty, pos, aft, some (j, g)⟩ :: l) k env H := by
  obtain ⟨fn, h1, h2, h3⟩ := hk.known
  refine runO_guarded rfl ht (fun hc => ?_) hr
  refine opOk_call (c := ⟨.value (.func h), args, ats⟩) (g := .func h) (first := #[]) (captured := #[]) rfl rfl ?_ h1 h2 h3 (by simpa using hK hc)
  have : ∀ l : List Bool, stripL l (ev env (.func h)) = .v (.func (.func h) #[] #[]) := by
    intro l
    induction l with
    | nil => rfl
    | cons c l ih => exact ih
  exact this cs
end lits

end
attribute [go_sem] Go.Sn.Go stepV valA ev ofV put_some put_none upd_at env0 guardA condsD cdB allT wrapL strip1 stripL pickA selA loadA fieldAddrA fieldA partA indexAddrA indexA sliceA boundA
  binA intA shiftA strA eqCells eqCell unA convA lenA maxA extractA nilCheckA litsA partsA buildA fillA Value.oneCell' Heap.set_at Heap.del_at resA tupA
section words
@[go_sem] theorem D.elems_list (xs : List (List D)) : (D.list xs).elems = some xs := rfl
@[go_sem] theorem D.elems_own (b c : Nat) (xs : List (List D)) : (D.own b c xs).elems = some xs := rfl
@[go_sem] theorem D.elems_nil : D.nil.elems = some [] := rfl
@[go_sem] theorem D.elems_v (x : Value) : (D.v x).elems = none := rfl
@[go_sem] theorem D.elems_agg (ds : List D) : (D.agg ds).elems = none := rfl
@[go_sem] theorem D.elems_ip (ds : List D) : (D.ip ds).elems = none := rfl
@[go_sem] theorem D.cells_agg (ds : List D) : (D.agg ds).cells = ds := rfl
@[go_sem] theorem D.cells_v (x : Value) : (D.v x).cells = [.v x] := rfl
@[go_sem] theorem D.cells_list (xs : List (List D)) : (D.list xs).cells = [.list xs] := rfl
@[go_sem] theorem D.cells_own (b c : Nat) (xs : List (List D)) : (D.own b c xs).cells = [.own b c xs] := rfl
@[go_sem] theorem D.cells_nil : D.nil.cells = [.nil] := rfl
@[go_sem] theorem D.cells_ip (ds : List D) : (D.ip ds).cells = [.ip ds] := rfl
@[go_sem] theorem D.one_v (x : Value) : (D.v x).one = x.oneCell' := rfl
@[go_sem] theorem D.one_list (xs : List (List D)) : (D.list xs).one = true := rfl
@[go_sem] theorem D.one_own (b c : Nat) (xs : List (List D)) : (D.own b c xs).one = true := rfl
@[go_sem] theorem D.one_nil : D.nil.one = true := rfl
@[go_sem] theorem D.one_ip (ds : List D) : (D.ip ds).one = true := rfl
@[go_sem] theorem D.stor_agg (ds : List D) : (D.agg ds).stor = ds.all D.one := rfl
@[go_sem] theorem D.stor_v (x : Value) : (D.v x).stor = x.oneCell' := rfl
@[go_sem] theorem D.stor_list (xs : List (List D)) : (D.list xs).stor = true := rfl
@[go_sem] theorem D.stor_own (b c : Nat) (xs : List (List D)) : (D.own b c xs).stor = true := rfl
@[go_sem] theorem D.stor_nil : D.nil.stor = true := rfl
@[go_sem] theorem D.stor_ip (ds : List D) : (D.ip ds).stor = true := rfl
end words
attribute [go_sem] D.flat0_list D.flat0_own D.flat0_nil D.flat0_v D.flat0_ip D.flat0_agg D.flat0_tup D.flat0_gd D.flat_list D.flat_own D.flat_nil D.flat_v D.flat_ip D.flat_agg D.flat_tup D.flat_gd
end Go.Sn
namespace Go.Sn
open Go Go.RowKit
set_option linter.unusedVariables false
set_option linter.unusedSimpArgs false

theorem Inv.grow {W : World} {G : IG} {H : Heap} {w : World} (h : Inv W G H w) {b o : Nat} {cs : List Value} (hw : ∀ k c, cs[k]? = some c → w.cell? ⟨b, o + k, none⟩ = some c)
    (h1 : ∀ c ∈ cs, c.oneCell' = true) (hf : ∀ p, o ≤ p → G b p = none) (hH : ∀ r, H b = some r → r.holds (G.add b o cs) w b) : Inv W (G.add b o cs) H w := by
  refine ⟨h.below, fun k p x hx => ?_, fun k r hk => ?_⟩
  · unfold IG.add at hx
    split at hx
    · rename_i hh
      obtain ⟨rfl, h2, h3⟩ := hh
      refine ⟨?_, h1 x (List.mem_of_getElem? hx)⟩
      have := hw _ _ hx
      rwa [Nat.add_sub_cancel' h2] at this
    · exact h.imm k p x hx
  · refine ⟨(h.res k r hk).1, ?_⟩
    by_cases e : k = b
    · subst e; exact hH r hk
    · exact (h.res k r hk).2.gmono (IG.le_add G b o cs hf) (fun p => IG.add_other G o cs e p)

theorem execOp_v' {P : Program} {s : Sem Value} {v : Value} {w w' : World} (h : s.run P w = .ok v w') : (do pure (Next.value (← s)) : Sem Next).run P w = .ok (.value v) w' := by
  simp [h]

/-- A new block whose first cells are immutable. -/
theorem Inv.allocImm {W : World} {G : IG} {H : Heap} {w : World} (h : Inv W G H w) (cs : List Value) (rest : List Value) (ds : List D) (e : TypeId) (hr : Reps G cs ds)
    (h1 : ∀ c ∈ cs, c.oneCell' = true) :
    Inv W (G.add w.heap.size 0 cs) H (w.alloc (.cells (cs ++ rest).toArray e)) ∧ G.le (G.add w.heap.size 0 cs) ∧ CellsAt (G.add w.heap.size 0 cs) w.heap.size 0 ds := by
  have hle : G.le (G.add w.heap.size 0 cs) := IG.le_add G _ 0 cs fun p _ => h.gfresh (Nat.le_refl _) p
  refine ⟨(h.alloc _).grow (fun k c hc => ?_) h1 (fun p _ => h.gfresh (Nat.le_refl _) p) (fun r hr => ?_), hle, fun k d hd => ?_⟩
  · rw [cell_of_row _ _ _ _ e (0, 0) (heap_alloc_new w _)]
    have hk : k < cs.length := (List.getElem?_eq_some_iff.1 hc).1
    simp [List.getElem?_append, hk] at hc ⊢
    exact hc
  · rw [h.fresh (Nat.le_refl _)] at hr; cases hr
  · obtain ⟨c, hc, hrc⟩ := hr.get hd
    exact ⟨c, IG.add_at G _ 0 cs hc, hrc.mono hle⟩

theorem Reps.flat {G : IG} {cs : List Value} {ds : List D} (h : Reps G cs ds) : Reps G cs (ds.map D.flat) := by
  refine ⟨by simp [h.1], fun k d c hd hc => ?_⟩
  rw [List.getElem?_map] at hd
  cases hk : ds[k]? with
  | none => simp [hk] at hd
  | some d' => simp [hk] at hd; subst hd; exact (h.2 k d' c hk hc).flat

/-- All places of a literal, in order. -/
def fullParts : List (Nat × D) → Nat → Bool
  | [], _ => true
  | (i, d) :: l, k => i == k && fullParts l (k + 1)

theorem fillA_full {sz : Nat} : ∀ (l : List (Nat × D)) (k : Nat) (pre cells : List D), fullParts l k = true → (∀ x ∈ l, x.2.cells.length = sz ∧ x.2.stor = true) →
    pre.length = k * sz → cells.length = l.length * sz → fillA (fun i => some (i * sz, sz)) (pre ++ cells) l = some (pre ++ (l.map fun x => x.2.cells).flatten)
  | [], k, pre, cells, _, _, _, hc => by
    have : cells = [] := List.eq_nil_of_length_eq_zero (by simpa using hc)
    subst this
    simp [fillA]
  | (i, d) :: l, k, pre, cells, hf, hs, hp, hc => by
    simp only [fullParts, Bool.and_eq_true, beq_iff_eq] at hf
    obtain ⟨rfl, hf⟩ := hf
    obtain ⟨hlen, hst⟩ := hs (i, d) (by simp)
    simp only at hlen hst
    simp only [List.length_cons, Nat.add_mul, Nat.one_mul] at hc
    unfold fillA
    simp only
    rw [if_pos ⟨hlen, by simp; omega, hst⟩]
    have h1 : (pre ++ cells).take (i * sz) = pre := by rw [← hp]; exact List.take_left
    have h2 : (pre ++ cells).drop (i * sz + sz) = cells.drop sz := by rw [← hp, ← List.drop_drop, List.drop_left]
    rw [h1, h2, fillA_full l (i + 1) (pre ++ d.cells) (cells.drop sz) hf (fun x hx => hs x (by simp [hx])) (by simp [hp, hlen, Nat.add_mul]) (by simp; omega)]
    simp

section
variable {P : Program} {W : World} {f : FuncId} {N : Nat} {Q : D → Heap → Prop} {ops : Array Oper} {l : List Oper} {o : Oper} {k : List Item} {env : Env} {H : Heap}

theorem opOk_buildSlice {ρ : Operand → D} {K : D → Heap → Prop} {t e n sz : Nat} {parts : Array (Nat × Operand)} {z : List D} (ho : o.op = .buildSlice t n parts) (hu : P.underlying t = some (.slice e))
    (hsz : szT P e = some sz) (hz : zeroT P e = some z) (hzl : z.length = sz) (hn : parts.toList.length = n) (hfull : fullParts (partsA ρ parts.toList) 0 = true)
    (hs : ∀ x ∈ partsA ρ parts.toList, x.2.cells.length = sz ∧ x.2.stor = true) (hle : n * sz ≤ 16777216)
    (hK : K (if n = 0 then .nil else .list ((partsA ρ parts.toList).map fun x => x.2.cells.map D.flat)) H) : OpOk P W o ρ H K := by
  intro G a w next Qx hI hρ hnext
  obtain ⟨x, hx, hrx, h1x⟩ := zeroT_run (w := w) (G := G) hz
  have hxs : x.cells.size = sz := by have := hrx.1; simp at this; omega
  let zero : Array Value := if n * sz = 0 then #[] else x.cells
  let init : Array Value := (Array.range (n * sz)).map (zero[· % zero.size]!)
  have hinit : init.size = n * sz := by simp [init]
  have hpl : (partsA ρ parts.toList).length = n := by simp [partsA, hn]
  have hfill := fillA_full (sz := sz) (partsA ρ parts.toList) 0 [] (init.toList.map .v) hfull hs (by simp) (by simp [hpl, hinit])
  simp only [List.nil_append] at hfill
  obtain ⟨cs', hcs', hr'⟩ := fillA_ok (G := G) (fun i => some (i * sz, sz)) _ (fun i x h => h) (partsA ρ parts.toList) (parts.toList.map fun x => (x.1, a.eval x.2)) _ _ init hfill (Reps.self G init.toList) (by simp [partsA]) (fun k p q hp hq => by
      simp only [partsA, List.getElem?_map] at hp hq
      cases hk : parts.toList[k]? with
      | none => rw [hk] at hp; simp at hp
      | some x => rw [hk] at hp hq; simp at hp hq; subst hp; subst hq; exact ⟨rfl, hρ _ (by simp only [ho, Op.operands, List.mem_toArray, List.mem_map]; exact ⟨_, List.mem_of_getElem? hk, rfl⟩)⟩)
  have hmap : (parts.map fun x => (x.1, a.eval x.2)).toList = parts.toList.map fun x => (x.1, a.eval x.2) := by simp
  have hrun : (execOp a.eval o).run P w = .ok (.value (.slice (some ⟨w.heap.size, 0, none⟩) n n)) (w.alloc (.cells cs' e)) := by
    have hle' : ¬ (2 ^ 24 < n * sz) := by omega
    simp only [execOp, ho]
    refine execOp_v' ?_
    simp only [Instr.buildSlice, Sem.run_bind, run_underlying hu, Result.andThen_ok, run_szT hsz, gt_iff_lt, if_neg hle', Sem.run_pure]
    by_cases h0 : n * sz = 0
    · have hz0 : zero = #[] := if_pos h0
      have hi0 : init = (Array.range (n * sz)).map ((#[] : Array Value)[· % (#[] : Array Value).size]!) := by simp only [init, hz0]
      rw [hi0] at hcs'
      simp only [if_pos h0, Sem.run_bind, Sem.run_pure, Result.andThen_ok]
      rw [hmap, hcs']
      simp [newRow]
    · have hz0 : zero = x.cells := if_neg h0
      have hi0 : init = (Array.range (n * sz)).map (x.cells[· % x.cells.size]!) := by simp only [init, hz0]
      rw [hi0] at hcs'
      simp only [if_neg h0, Sem.run_bind, Sem.run_pure, Result.andThen_ok, hx]
      rw [hmap, hcs']
      simp [newRow]
  unfold Oper.wp
  rw [hrun]
  have hone : ∀ c ∈ cs'.toList, c.oneCell' = true := by
    intro c hc
    obtain ⟨i, hi, rfl⟩ := List.getElem_of_mem hc
    have hi' : i < ((partsA ρ parts.toList).map fun x => x.2.cells).flatten.length := by rw [← hr'.1]; exact hi
    have hrep := hr'.2 i _ _ (List.getElem?_eq_getElem hi') (List.getElem?_eq_getElem hi)
    have hmem := List.getElem_mem hi'
    refine hrep.one ?_
    simp only [List.mem_flatten, List.mem_map] at hmem
    obtain ⟨cl, ⟨x, hx, rfl⟩, hin⟩ := hmem
    have := (hs x hx).2
    generalize ((partsA ρ parts.toList).map fun x => x.2.cells).flatten[i] = d at hin
    cases hxd : x.2 <;> simp [hxd, D.stor, D.one, D.cells] at this hin <;> first | (exact this _ hin) | (subst hin; simp [D.one]; try exact this)
  obtain ⟨hI', hG, hcells⟩ := hI.allocImm cs'.toList [] _ e hr'.flat hone
  simp only [List.append_nil, Array.toArray_toList] at hI'
  refine hnext _ _ _ _ _ hG hI' ?_ hK
  split
  · rename_i h0; subst h0; exact .nil1 _
  · refine Rep.mkList (sz := sz) (by simp [hpl]) (Nat.le_refl _) ?_ ?_
    · intro ds hds
      simp only [List.mem_map] at hds
      obtain ⟨x, hx, rfl⟩ := hds
      simp [(hs x hx).1]
    · have : ((partsA ρ parts.toList).map fun x => x.2.cells.map D.flat).flatten = ((partsA ρ parts.toList).map fun x => x.2.cells).flatten.map D.flat := by
        simp [List.map_flatten, Function.comp_def]
      rw [this]
      exact hcells

/-! ### append -/

theorem run_append_zero {t ty e sz : Nat} (hu : P.underlying t = some (.slice e)) (hsz : szT P e = some sz) {w : World} (base : Option Addr) (n c : Nat) (hc : n ≤ c) (x : Option Addr) (cx : Nat) :
    (Builtin.append_ #[t, t] ty #[.slice base n c, .slice x 0 cx]).run P w = .ok (.slice base n c) w := by
  have hf : (Builtin.firstCells sz 0 (.slice x 0 cx)).run P w = .ok #[] w := by
    cases x <;> simp [Builtin.firstCells, loadCells, loadCellsFrom]
  simp only [Builtin.append_, Sem.run_bind, run_underlying hu, Result.andThen_ok, run_szT hsz]
  simp [run_underlying hu, Builtin.lenOf, hc, hf, run_szT hsz]
  cases base <;> simp [storeCells]

theorem infoT {e sz by_ : Nat} {z : List D} (hsz : szT P e = some sz) (hby : bytesT P e = some by_) (hz : zeroT P e = some z) :
    ∃ i : TypeInfo, ∃ x : Value, P.info? e = some i ∧ i.size = sz ∧ i.bytes = by_ ∧ i.zero = some x ∧ x.cells.size = z.length := by
  unfold szT at hsz
  unfold bytesT at hby
  unfold zeroT at hz
  cases hi : P.info? e with
  | none => simp [hi] at hsz
  | some i =>
    simp [hi] at hsz hby hz
    cases hzz : i.zero with
    | none => simp [hzz] at hz
    | some x =>
      simp [hzz] at hz
      exact ⟨i, x, rfl, hsz, hby, hzz, by rw [← hz.2]; simp⟩

theorem wp_value {o : Oper} {a : Act} {w w' : World} {v : Value} {next : Act → World → Prop} {Qx : Exit → Act → World → Prop} (h : (execOp a.eval o).run P w = .ok (.value v) w')
    (hn : next (a.put o.dst v) w') : o.wp P a w next Qx := by
  unfold Oper.wp
  rw [h]
  exact hn

theorem run_append_op {a : Act} {s x : Operand} {t : Nat} (ho : o.op = .call ⟨.builtin .append, #[s, x], #[t, t]⟩) {w w' : World} {v : Value}
    (h : (Builtin.append_ #[t, t] o.type #[a.eval s, a.eval x]).run P w = .ok v w') : (execOp a.eval o).run P w = .ok (.value v) w' := by
  simp [execOp, ho, resolve, invoke, builtin, h]

/-- Elements that follow one another. -/
theorem elems_all {sz : Nat} {xs : List (List D)} (hl : ∀ ds ∈ xs, ds.length = sz) : xs.flatten.length = xs.length * sz := by
  induction xs with
  | nil => simp
  | cons x xs ih => simp [ih (fun ds h => hl ds (by simp [h])), hl x (by simp), Nat.add_mul]; omega

/-- append to an empty slice without room: a new block. -/
theorem opOk_append_nil {ρ : Operand → D} {K : D → Heap → Prop} {s x : Operand} {t e sz by_ : Nat} {z : List D} {ys : List (List D)} (ho : o.op = .call ⟨.builtin .append, #[s, x], #[t, t]⟩)
    (hu : P.underlying t = some (.slice e)) (hsz : szT P e = some sz) (hby : bytesT P e = some by_) (hz : zeroT P e = some z) (hzl : z.length = sz) (hs : ρ s = .nil) (hx : (ρ x).elems = some ys)
    (hsy : ∀ ds ∈ ys, ds.length = sz) (hlen : ys.length * by_ ≤ 140737488355328) (hlen2 : ys.length ≤ maxLen)
    (hK0 : ys = [] → K .nil H) (hK : ys ≠ [] → ∀ b cap, H b = none → K (.own b cap ys) (H.set b (.grow e ys.length cap sz))) : OpOk P W o ρ H K := by
  intro G a w next Qx hI hρ hnext
  obtain ⟨i, zv, hi, hisz, hiby, hiz, hzv⟩ := infoT hsz hby hz
  have hsv := hρ s (by simp [ho, Op.operands, Call.operands])
  rw [hs] at hsv
  rcases (hρ x (by simp [ho, Op.operands, Call.operands])).inv_elems hx with ⟨⟨ax, hxv⟩, rfl⟩ | ⟨b, q, c, sz', hxv, hc, hsz', hcells⟩
  · -- nothing to append
    rcases hsv.inv_nil with hv | ⟨a', hv⟩
    · refine wp_value (run_append_op ho (v := .slice none 0 0) (w' := w) ?_) (hnext _ _ _ G _ (.refl G) hI .nil0 (hK0 rfl))
      rw [hv, hxv]
      exact run_append_zero hu hsz none 0 0 (Nat.le_refl _) ax 0
    · refine wp_value (run_append_op ho (v := .slice (some a') 0 0) (w' := w) ?_) (hnext _ _ _ G _ (.refl G) hI (.nil1 a') (hK0 rfl))
      rw [hv, hxv]
      exact run_append_zero hu hsz _ 0 0 (Nat.le_refl _) ax 0
  · by_cases hy : ys = []
    · subst hy
      rcases hsv.inv_nil with hv | ⟨a', hv⟩
      · refine wp_value (run_append_op ho (v := .slice none 0 0) (w' := w) ?_) (hnext _ _ _ G _ (.refl G) hI .nil0 (hK0 rfl))
        rw [hv, hxv]
        exact run_append_zero hu hsz none 0 0 (Nat.le_refl _) _ c
      · refine wp_value (run_append_op ho (v := .slice (some a') 0 0) (w' := w) ?_) (hnext _ _ _ G _ (.refl G) hI (.nil1 a') (hK0 rfl))
        rw [hv, hxv]
        exact run_append_zero hu hsz _ 0 0 (Nat.le_refl _) _ c
    · obtain ⟨news, hrep, hnews⟩ := hcells.reps
      have hnl : news.length = ys.length * i.size := by rw [hrep.1, elems_all hsy, hisz]
      have hpos : 0 < ys.length := List.length_pos_iff.2 hy
      have hcell : ∀ j u, news[j]? = some u → w.cell? ((⟨b, q, none⟩ : Addr).add j) = some u := fun j u hj => by rw [Addr.add_lit]; exact (hI.imm b _ u (hnews j u hj)).1
      have h63 : (ys.length : Int) ≤ 9223372036854775807 := by simp only [maxLen] at hlen2; omega
      let cap := grownCap w ys.length 0 e
      have hcap : ys.length ≤ cap := grownCap_ge w ys.length 0 e
      let w' := w.drew.alloc (.cells (news.toArray ++ Builtin.zeroCells zv.cells (cap - ys.length)) e)
      have hrun : (Builtin.append_ #[t, t] o.type #[a.eval s, a.eval x]).run P w = .ok (.slice (some ⟨w.heap.size, 0, none⟩) ys.length cap) w' := by
        rw [hxv]
        rcases hsv.inv_nil with hv | ⟨a', hv⟩
        · rw [hv]
          exact run_append_nil (P := P) w t o.type e i zv hu hi hiz ⟨b, q, none⟩ ys.length c news hnl hcell hpos h63 (by rw [hiby]; omega)
        · rw [hv]
          have := run_append_grow (P := P) w t o.type e i zv hu hi hiz a' 0 0 [] (by simp) (by simp) ⟨b, q, none⟩ ys.length c news hnl hcell (by omega) (by simpa using h63)
            (by rw [Nat.zero_add, nextslicecap_zero hpos, hiby]; omega)
          simp only [Nat.zero_add] at this
          simpa using this
      have hone : ∀ c ∈ news, c.oneCell' = true := by
        intro c' hc'
        obtain ⟨j, hj, rfl⟩ := List.getElem_of_mem hc'
        exact (hI.imm b _ _ (hnews j _ (List.getElem?_eq_getElem hj))).2
      obtain ⟨hI', hG, hcl⟩ := hI.drew.allocImm news (Builtin.zeroCells zv.cells (cap - ys.length)).toList ys.flatten e hrep hone
      have hw' : w' = w.drew.alloc (.cells (news ++ (Builtin.zeroCells zv.cells (cap - ys.length)).toList).toArray e) := by
        simp only [w']
        congr 2
        apply Array.ext'
        simp
      rw [← hw'] at hI'
      simp only [World.size_drew] at hI' hG hcl
      refine wp_value (run_append_op ho hrun) (hnext _ _ _ _ _ hG (hI'.add (b := w.heap.size) (r := .grow e ys.length cap sz) hI.below.size ?_) (Rep.mkOwn rfl hcap hsy hcl) (hK hy _ _ (hI.fresh (Nat.le_refl _))))
      refine ⟨news.toArray ++ Builtin.zeroCells zv.cells (cap - ys.length), ?_, ?_, hcap, grownCap_le_maxLen w ys.length 0 e hlen2, fun p hp => ?_⟩
      · simp only [w']; exact heap_alloc_new w.drew _
      · simp only [Array.size_append, List.size_toArray, size_zeroCells, hnl, hzv, hzl, hisz, ← Nat.add_mul]
        congr 1
        omega
      · have : news.length ≤ p := by rw [hnl, hisz]; exact hp
        simp only [IG.add]
        rw [if_neg (by omega)]
        exact hI.gfresh (Nat.le_refl _) p

/-- append to a slice whose room is ours. -/
theorem opOk_append_own {ρ : Operand → D} {K : D → Heap → Prop} {s x : Operand} {t e sz by_ b cap : Nat} {z : List D} {xs ys : List (List D)} (ho : o.op = .call ⟨.builtin .append, #[s, x], #[t, t]⟩)
    (hu : P.underlying t = some (.slice e)) (hsz : szT P e = some sz) (hby : bytesT P e = some by_) (hz : zeroT P e = some z) (hzl : z.length = sz) (hs : ρ s = .own b cap xs) (hx : (ρ x).elems = some ys)
    (hb : H b = some (.grow e xs.length cap sz)) (hsx : ∀ ds ∈ xs, ds.length = sz) (hsy : ∀ ds ∈ ys, ds.length = sz) (hlen : (xs.length + ys.length) * by_ ≤ 140737488355328) (hlen2 : xs.length + ys.length ≤ maxLen)
    (hK : ∀ b' cap', (H.del b) b' = none → K (.own b' cap' (xs ++ ys)) ((H.del b).set b' (.grow e (xs.length + ys.length) cap' sz))) : OpOk P W o ρ H K := by
  intro G a w next Qx hI hρ hnext
  obtain ⟨i, zv, hi, hisz, hiby, hiz, hzv⟩ := infoT hsz hby hz
  have hsv := hρ s (by simp [ho, Op.operands, Call.operands])
  rw [hs] at hsv
  obtain ⟨szx, hv, hnc, hszx, hcx⟩ := hsv.inv_own
  obtain ⟨hWb, cur, hcur, hcs, hnc', hcm, hfree⟩ := hI.res b _ hb
  have hIdel : Inv W G (H.del b) w := hI.weaken fun c r hc => by rw [Heap.del_at] at hc; split at hc; cases hc; exact hc
  -- nothing to append: as it was
  have stay : ys = [] → ∀ (ax : Option Addr) (cx : Nat), a.eval x = .slice ax 0 cx → o.wp P a w next Qx := by
    intro hy ax cx hxv
    subst hy
    refine wp_value (run_append_op ho (v := a.eval s) (w' := w) ?_) (hnext _ (.own b cap (xs ++ [])) ((H.del b).set b (.grow e (xs.length + ([] : List (List D)).length) cap sz)) G _ (.refl G) ?_ (by simpa using hsv) (hK b cap (by simp [Heap.del])))
    · rw [hv, hxv]
      exact run_append_zero hu hsz _ _ _ hnc ax cx
    · exact hIdel.add hWb ⟨cur, hcur, hcs, by simpa using hnc', hcm, by simpa using hfree⟩
  rcases (hρ x (by simp [ho, Op.operands, Call.operands])).inv_elems hx with ⟨⟨ax, hxv⟩, hy⟩ | ⟨bx, q, c, szy, hxv, hc, hsz', hcells⟩
  · exact stay hy ax 0 hxv
  · by_cases hy : ys = []
    · refine stay hy _ c (by rw [hxv, hy]; rfl)
    · obtain ⟨news, hrep, hnews⟩ := hcells.reps
      have hnl : news.length = ys.length * i.size := by rw [hrep.1, elems_all hsy, hisz]
      have hpos : 0 < ys.length := List.length_pos_iff.2 hy
      have hcell : ∀ j u, news[j]? = some u → w.cell? ((⟨bx, q, none⟩ : Addr).add j) = some u := fun j u hj => by rw [Addr.add_lit]; exact (hI.imm bx _ u (hnews j u hj)).1
      have hone : ∀ c ∈ news, c.oneCell' = true := by
        intro c' hc'
        obtain ⟨j, hj, rfl⟩ := List.getElem_of_mem hc'
        exact (hI.imm bx _ _ (hnews j _ (List.getElem?_eq_getElem hj))).2
      have hxl : xs.flatten.length = xs.length * sz := elems_all hsx
      have hsxy : ∀ ds ∈ xs ++ ys, ds.length = sz := by
        intro ds hds
        rcases List.mem_append.1 hds with h | h
        · exact hsx ds h
        · exact hsy ds h
      by_cases hroom : xs.length + ys.length ≤ cap
      · -- in place
        have hfit : xs.length * i.size + news.length ≤ cur.size := by rw [hnl, hcs, hisz, ← Nat.add_mul]; exact Nat.mul_le_mul_right _ hroom
        have hrun := run_append_room (P := P) w t o.type e i hu hi b xs.length cap cur hcur ⟨bx, q, none⟩ ys.length c news hnl hcell hone hroom hfit
        have hrow : (cur.toList.take (xs.length * i.size) ++ news ++ cur.toList.drop (xs.length * i.size + news.length)).toArray = (cur.toList.take (xs.length * i.size) ++ news ++ cur.toList.drop (xs.length * i.size + news.length)).toArray := rfl
        generalize hw' : w.setRow b (cur.toList.take (xs.length * i.size) ++ news ++ cur.toList.drop (xs.length * i.size + news.length)).toArray = w' at hrun
        have hheap : w'.heap[b]? = some (.cells (cur.toList.take (xs.length * i.size) ++ news ++ cur.toList.drop (xs.length * i.size + news.length)).toArray e (0, 0)) := by
          rw [← hw']; exact setRow_heap w b _ _ e _ hcur
        have hother : ∀ k, k ≠ b → w'.heap[k]? = w.heap[k]? := fun k hk => by rw [← hw']; exact setRow_other w b k _ hk
        have hsz0 : w'.heap.size = w.heap.size := by rw [← hw']; simp
        -- the world behind, with what was immutable
        have hI1 : Inv W G (H.del b) w' := by
          refine ⟨hI.below.trans ⟨by rw [← hw']; rfl, by rw [← hw']; rfl, by rw [← hw']; rfl, by omega, fun k hk => hother k (by omega)⟩, fun p u xx hxx => ⟨?_, (hI.imm p u xx hxx).2⟩, fun k r hk => ?_⟩
          · by_cases hp : p = b
            · subst hp
              have hu' : u < xs.length * sz := by
                rcases Nat.lt_or_ge u (xs.length * sz) with h | h
                · exact h
                · rw [hfree u h] at hxx; cases hxx
              have h0 := (hI.imm p u xx hxx).1
              rw [cell_of_row _ _ _ _ e _ hcur] at h0
              rw [cell_of_row _ _ _ _ e _ hheap]
              rw [hisz]
              have hle : xs.length * sz ≤ cur.size := by rw [hisz] at hfit; omega
              simp only [List.getElem?_toArray, List.append_assoc]
              rw [List.getElem?_append_left (by simp; omega), List.getElem?_take, if_pos hu']
              simpa using h0
            · rw [World.cell?_of_block (w := w) (a := ⟨p, u, none⟩) (hother p hp)]
              exact (hI.imm p u xx hxx).1
          · rw [Heap.del_at] at hk
            split at hk
            · cases hk
            · rename_i hkb
              exact ⟨(hI.res k r hk).1, (hI.res k r hk).2.same (hother k hkb)⟩
        have hfree' : ∀ p, xs.length * sz ≤ p → G b p = none := hfree
        have hI2 := hI1.grow (b := b) (o := xs.length * sz) (cs := news) (fun kk cc hcc => by
          rw [cell_of_row _ _ _ _ e _ hheap]
          have hle : xs.length * sz ≤ cur.size := by rw [hisz] at hfit; omega
          have hkk : kk < news.length := (List.getElem?_eq_some_iff.1 hcc).1
          rw [hisz]
          simp only [List.getElem?_toArray, List.append_assoc]
          rw [List.getElem?_append_right (by simp; omega), List.getElem?_append_left (by simp; omega)]
          have : xs.length * sz + kk - (cur.toList.take (xs.length * sz)).length = kk := by simp; omega
          rw [this]; exact hcc) hone hfree' (fun r hr => by simp [Heap.del] at hr)
        have hG : G.le (G.add b (xs.length * sz) news) := IG.le_add G b _ news hfree'
        have hcl : CellsAt (G.add b (xs.length * sz) news) b 0 (xs ++ ys).flatten := by
          rw [List.flatten_append]
          refine CellsAt.append (hcx.mono hG) ?_
          rw [Nat.zero_add, hxl]
          intro kk d hd
          obtain ⟨cc, hcc, hrc⟩ := hrep.get hd
          exact ⟨cc, IG.add_at G b _ news hcc, hrc.mono hG⟩
        refine wp_value (run_append_op ho (by rw [hv, hxv]; exact hrun)) (hnext _ _ _ _ _ hG (hI2.add (b := b) (r := .grow e (xs.length + ys.length) cap sz) hWb ?_) (Rep.mkOwn (by simp) hroom hsxy hcl) (hK b cap (by simp [Heap.del])))
        refine ⟨_, hheap, ?_, hroom, hcm, fun p hp => ?_⟩
        · simp only [List.size_toArray, List.length_append, List.length_take, List.length_drop, Array.length_toList]
          rw [← hcs]
          omega
        · simp only [IG.add]
          rw [hnl, hisz, if_neg (by rw [Nat.add_mul] at hp; omega)]
          exact hfree p (by rw [Nat.add_mul] at hp; omega)
      · -- a new block
        obtain ⟨olds, hrepo, holds⟩ := hcx.reps
        simp only [Nat.zero_add] at holds
        have hol : olds.length = xs.length * i.size := by rw [hrepo.1, hxl, hisz]
        have holdc : ∀ j u, olds[j]? = some u → w.cell? ((⟨b, 0, none⟩ : Addr).add j) = some u := fun j u hj => by rw [Addr.add_lit]; simpa using (hI.imm b _ u (holds j u hj)).1
        have hgt : cap < xs.length + ys.length := by omega
        have hrun := run_append_grow (P := P) w t o.type e i zv hu hi hiz ⟨b, 0, none⟩ xs.length cap olds hol holdc ⟨bx, q, none⟩ ys.length c news hnl hcell hgt
          (by simp only [maxLen] at hlen2; omega) (by rw [hiby]; exact growslice_fits hgt hlen)
        have hone2 : ∀ c ∈ olds ++ news, c.oneCell' = true := by
          intro c' hc'
          rcases List.mem_append.1 hc' with h | h
          · obtain ⟨j, hj, rfl⟩ := List.getElem_of_mem h
            exact (hI.imm b _ _ (holds j _ (List.getElem?_eq_getElem hj))).2
          · exact hone c' h
        obtain ⟨hI', hG, hcl⟩ := hIdel.drew.allocImm (olds ++ news) (Builtin.zeroCells zv.cells (grownCap w (xs.length + ys.length) cap e - (xs.length + ys.length))).toList (xs ++ ys).flatten e
          (by rw [List.flatten_append]; exact hrepo.append hrep) hone2
        have harr : olds.toArray ++ news.toArray ++ Builtin.zeroCells zv.cells (grownCap w (xs.length + ys.length) cap e - (xs.length + ys.length)) =
            ((olds ++ news) ++ (Builtin.zeroCells zv.cells (grownCap w (xs.length + ys.length) cap e - (xs.length + ys.length))).toList).toArray := by
          apply Array.ext'
          simp
        have hcap := grownCap_ge w (xs.length + ys.length) cap e
        have hnone : (H.del b) w.heap.size = none := hIdel.fresh (Nat.le_refl _)
        simp only [World.size_drew] at hI' hG hcl
        rw [harr] at hrun
        refine wp_value (run_append_op ho (by rw [hv, hxv]; exact hrun)) (hnext _ _ _ _ _ hG (hI'.add (b := w.heap.size) (r := .grow e (xs.length + ys.length) (grownCap w (xs.length + ys.length) cap e) sz) hI.below.size ?_)
          (Rep.mkOwn (by simp) hcap hsxy hcl) (hK _ _ hnone))
        refine ⟨_, heap_alloc_new w.drew _, ?_, hcap, grownCap_le_maxLen w _ cap e hlen2, fun p hp => ?_⟩
        · simp only [List.size_toArray, List.length_append, Array.length_toList, size_zeroCells, hnl, hol, hzv, hzl, hisz, ← Nat.add_mul]
          congr 1
          omega
        · have : (olds ++ news).length ≤ p := by rw [List.length_append, hnl, hol, hisz, ← Nat.add_mul]; exact hp
          simp only [IG.add]
          rw [if_neg (by omega)]
          exact hI.gfresh (Nat.le_refl _) p
end
end Go.Sn
namespace Go.Sn
open Go Go.RowKit
set_option linter.unusedVariables false
set_option linter.unusedSimpArgs false

/-- A string's bytes, as a slice's elements. -/
def bytesC (l : List UInt8) : List (List D) := l.map fun b => [.v (.int .u8 (b.toNat : Int))]
theorem bytesC_flatten (l : List UInt8) : (bytesC l).flatten = l.map fun b => D.v (.int .u8 (b.toNat : Int)) := by
  induction l with
  | nil => rfl
  | cons b l ih => rw [List.map_cons, ← ih]; simp [bytesC]
def numsC (l : List Int) : List (List D) := l.map fun n => [.v (.int .u8 n)]
theorem numsC_flatten (l : List Int) : (numsC l).flatten = l.map fun n => D.v (.int .u8 n) := by
  induction l with
  | nil => rfl
  | cons b l ih => rw [List.map_cons, ← ih]; simp [numsC]

section
variable {P : Program} {W : World} {f : FuncId} {N : Nat} {Q : D → Heap → Prop} {ops : Array Oper} {l : List Oper} {o : Oper} {k : List Item} {env : Env} {H : Heap}

theorem opOk_bytes {ρ : Operand → D} {K : D → Heap → Prop} {st t e : Nat} {x : Operand} {s : ByteArray} (ho : o.op = .convert st t x) (hus : P.underlying st = some .string)
    (hut : P.underlying t = some (.slice e)) (hue : P.underlying e = some (.int .u8)) (hx : ρ x = .v (.string s)) (hK : K (.list (bytesC s.data.toList)) H) : OpOk P W o ρ H K := by
  intro G a w next Qx hI hρ hnext
  have hxv : a.eval x = .string s := by have := hρ x (by simp [ho, Op.operands]); rw [hx] at this; exact this.inv_v
  have hrun := Lib.run_convert_string_bytes (P := P) w st t e s hus hut hue
  have hsz : s.data.toList.length = s.size := rfl
  let cs : List Value := s.data.toList.map fun b => Value.int .u8 b.toNat
  have hle : G.le (G.add w.heap.size 0 cs) := IG.le_add G _ 0 cs fun p _ => hI.gfresh (Nat.le_refl _) p
  have hnew := Lib.bytesWorld_at_new w e s
  have hI1 : Inv W G H (Lib.bytesWorld w e s) := by
    refine ⟨hI.below.trans ⟨rfl, rfl, rfl, by rw [Lib.bytesWorld_size]; omega, fun j hj => Lib.bytesWorld_at_old w e s j (by have := hI.below.size; omega)⟩, fun b o x hx => ⟨?_, (hI.imm b o x hx).2⟩, fun b r hr => ⟨(hI.res b r hr).1, ?_⟩⟩
    · rw [Lib.bytesWorld_old _ _ _ _ (World.block_lt_of_cell? w _ (hI.imm b o x hx).1)]
      exact (hI.imm b o x hx).1
    · exact (hI.res b r hr).2.same (Lib.bytesWorld_at_old w e s b (hI.res b r hr).2.lt)
  have hI2 := hI1.grow (b := w.heap.size) (o := 0) (cs := cs) (fun kk c hc => by
    have hk : kk < s.size := by have := (List.getElem?_eq_some_iff.1 hc).1; simpa [cs] using this
    rw [Nat.zero_add, Lib.bytesWorld_cell w e s kk hk]
    have hk' : kk < s.data.toList.length := hk
    simp only [cs, List.getElem?_map, List.getElem?_eq_getElem hk', Option.map_some, Option.some.injEq] at hc
    rw [← hc]
    simp [List.getD, List.getElem?_eq_getElem hk']) (fun c hc => by simp [cs] at hc; obtain ⟨b, _, rfl⟩ := hc; rfl) (fun p _ => hI.gfresh (Nat.le_refl _) p) (fun r hr => by rw [hI.fresh (Nat.le_refl _)] at hr; cases hr)
  refine wp_value (w' := Lib.bytesWorld w e s) (v := .slice (some ⟨w.heap.size, 0, none⟩) s.size (grownCap w s.size 0 e)) ?_ (hnext _ _ _ _ _ hle hI2 ?_ hK)
  · simp only [execOp, ho, hxv]
    exact execOp_v' hrun
  · refine Rep.mkList (sz := 1) (by simp [bytesC]) (grownCap_ge w s.size 0 e) (by simp [bytesC]) ?_
    rw [bytesC_flatten]
    intro kk d hd
    rw [List.getElem?_map] at hd
    cases hb : s.data.toList[kk]? with
    | none => rw [hb] at hd; cases hd
    | some b =>
      rw [hb] at hd
      cases hd
      exact ⟨.int .u8 b.toNat, IG.add_at G _ 0 cs (by simp only [cs, List.getElem?_map, hb]; rfl), .v _⟩

theorem opOk_string {ρ : Operand → D} {K : D → Heap → Prop} {st t e : Nat} {x : Operand} {ns : List Int} (ho : o.op = .convert st t x) (hus : P.underlying st = some (.slice e))
    (hut : P.underlying t = some .string) (hue : P.underlying e = some (.int .u8)) (hx : (ρ x).elems = some (numsC ns)) (hK : K (.v (.string (strOfNums ns))) H) : OpOk P W o ρ H K := by
  intro G a w next Qx hI hρ hnext
  rcases (hρ x (by simp [ho, Op.operands])).inv_elems hx with ⟨⟨ax, hxv⟩, hnil⟩ | ⟨b, q, c, sz, hxv, hc, hsz, hcells⟩
  · have hns : ns = [] := by cases ns <;> simp [numsC] at hnil ⊢
    subst hns
    refine wp_value (w' := w) (v := .string (strOfNums [])) ?_ (hnext _ _ _ _ _ (.refl G) hI (.v _) hK)
    simp only [execOp, ho, hxv]
    cases ax with
    | none => exact execOp_v' (by rw [run_convert_bytes_nil (P := P) w st e hus hue 0 0 t hut]; rfl)
    | some ax =>
      refine execOp_v' ?_
      have hl : (loadCells ax 0).run P w = .ok (([] : List Int).map (Value.int .u8)).toArray w := by
        simpa using run_loadCells_list (P := P) w ax [] (fun j v hj => by simp at hj)
      rw [run_convert_bytes_string w st t e _ 0 0 hus hue hut, run_bytesToString w _ 0 0 [] hl]
      rfl
  · refine wp_value (w' := w) (v := .string (strOfNums ns)) ?_ (hnext _ _ _ _ _ (.refl G) hI (.v _) hK)
    simp only [execOp, ho, hxv]
    refine execOp_v' (run_convert_bytes_arg (P := P) w st e hus hue b q _ c ns (by simp [numsC]) (fun i hi => ?_) t hut)
    have hi' : i < ns.length := by simpa [numsC] using hi
    rw [numsC_flatten] at hcells
    obtain ⟨v, hv, hr⟩ := hcells i (.v (.int .u8 ns[i])) (by rw [List.getElem?_map, List.getElem?_eq_getElem hi']; rfl)
    rw [(hI.imm _ _ _ hv).1, hr.inv_v]
    simp [List.getD, List.getElem?_eq_getElem hi']

theorem opOk_make_own {ρ : Operand → D} {K : D → Heap → Prop} {t e sz by_ : Nat} {z : List D} {x y : Operand} {k1 k2 : IntKind} {c : Nat} (ho : o.op = .makeSlice t x y)
    (hu : P.underlying t = some (.slice e)) (hsz : szT P e = some sz) (hby : bytesT P e = some by_) (hz : zeroT P e = some z) (hx : ρ x = .v (.int k1 0)) (hy : ρ y = .v (.int k2 (c : Int)))
    (hlen : c * by_ ≤ 140737488355328) (hlen2 : c ≤ maxLen) (hK : ∀ b, H b = none → K (.own b c []) (H.set b (.grow e 0 c sz))) : OpOk P W o ρ H K := by
  intro G a w next Qx hI hρ hnext
  obtain ⟨i, zv, hi, hisz, hiby, hiz, hzv⟩ := infoT hsz hby hz
  have hxv : a.eval x = .int k1 0 := by have := hρ x (by simp [ho, Op.operands]); rw [hx] at this; exact this.inv_v
  have hyv : a.eval y = .int k2 (c : Int) := by have := hρ y (by simp [ho, Op.operands]); rw [hy] at this; exact this.inv_v
  have h2 : by_ * c ≤ 140737488355328 := by rw [Nat.mul_comm]; exact hlen
  have hrun := run_make (P := P) w t e i zv hu hi hiz k1 k2 0 (c : Int) (Int.le_refl _) (by omega) (by rw [hiby, ← Int.natCast_mul]; omega) (by simp only [maxLen] at hlen2; omega)
  refine wp_value (w' := w.alloc (.cells (madeCells zv.cells (c * i.size)) e)) (v := .slice (some ⟨w.heap.size, 0, none⟩) 0 c) ?_
    (hnext _ _ _ _ _ (.refl G) ((hI.alloc _).add (b := w.heap.size) (r := .grow e 0 c sz) hI.below.size ⟨_, heap_alloc_new w _, by rw [size_madeCells, hisz], Nat.zero_le _, hlen2, fun p _ => hI.gfresh (Nat.le_refl _) p⟩) ?_
      (hK _ (hI.fresh (Nat.le_refl _))))
  · simp only [execOp, ho, hxv, hyv]
    exact execOp_v' (by simpa using hrun)
  · exact Rep.mkOwn (sz := sz) rfl (Nat.zero_le _) (by simp) (fun k d h => by simp at h)

theorem madeCells_zero (z : List Value) (hz : z ≠ []) : ∀ n : Nat, (madeCells z.toArray (n * z.length)).toList = (List.replicate n z).flatten := by
  intro n
  have hl : 0 < z.length := List.length_pos_iff.2 hz
  apply List.ext_getElem?
  intro k
  by_cases hk : k < n * z.length
  · have hdiv : k / z.length < n := Nat.div_lt_of_lt_mul (by rw [Nat.mul_comm]; exact hk)
    have hmod : k % z.length < z.length := Nat.mod_lt _ hl
    have h1 : (List.replicate n z).flatten[k]? = z[k % z.length]? := by
      have h := flatten_drop_take (sz := z.length) (List.replicate n z) (k / z.length) (by intro ds hds; rw [List.eq_of_mem_replicate hds]) (by simpa using hdiv)
      have hz' : (List.replicate n z).getD (k / z.length) [] = z := by simp [List.getD, hdiv]
      rw [hz'] at h
      have h' : (((List.replicate n z).flatten.drop (k / z.length * z.length)).take z.length)[k % z.length]? = z[k % z.length]? := by rw [h]
      rw [List.getElem?_take, if_pos hmod, List.getElem?_drop] at h'
      rw [← h']
      congr 1
      rw [Nat.mul_comm]; exact (Nat.div_add_mod k z.length).symm
    rw [h1]
    simp [madeCells, hk, hmod]
  · rw [List.getElem?_eq_none (by simp [madeCells]; omega), List.getElem?_eq_none (by simp; omega)]

/-- A slice whose cells are ours: to be written. -/
theorem opOk_make_cells {ρ : Operand → D} {K : D → Heap → Prop} {t e sz by_ : Nat} {z : List D} {x y : Operand} {k1 k2 : IntKind} {c : Nat} (ho : o.op = .makeSlice t x y)
    (hu : P.underlying t = some (.slice e)) (hsz : szT P e = some sz) (hby : bytesT P e = some by_) (hz : zeroT P e = some z) (hzl : z.length = sz) (hpos : 0 < sz) (hx : ρ x = .v (.int k1 (c : Int))) (hy : ρ y = .v (.int k2 (c : Int)))
    (hlen : c * by_ ≤ 140737488355328) (hlen2 : c ≤ maxLen) (hK : ∀ b, H b = none → K (.v (.slice (some ⟨b, 0, none⟩) c c)) (H.set b (.cells (List.replicate c z).flatten e))) : OpOk P W o ρ H K := by
  intro G a w next Qx hI hρ hnext
  obtain ⟨i, zv, hi, hisz, hiby, hiz, hzv⟩ := infoT hsz hby hz
  have hxv : a.eval x = .int k1 (c : Int) := by have := hρ x (by simp [ho, Op.operands]); rw [hx] at this; exact this.inv_v
  have hyv : a.eval y = .int k2 (c : Int) := by have := hρ y (by simp [ho, Op.operands]); rw [hy] at this; exact this.inv_v
  have h2 : by_ * c ≤ 140737488355328 := by rw [Nat.mul_comm]; exact hlen
  have hrun := run_make (P := P) w t e i zv hu hi hiz k1 k2 (c : Int) (c : Int) (by omega) (Int.le_refl _) (by rw [hiby, ← Int.natCast_mul]; omega) (by simp only [maxLen] at hlen2; omega)
  obtain ⟨zx, hzx, hzr, hz1⟩ := zeroT_run (w := w) (G := G) hz
  have hzz : zx = zv := by
    simp [zeroValue, typeInfo, hi, hiz] at hzx
    exact hzx.symm
  subst hzz
  have hne : zx.cells.toList ≠ [] := by
    intro e
    have := hzr.1
    rw [e, hzl] at this
    simp at this
    omega
  have hcells : (madeCells zx.cells (c * i.size)).toList = (List.replicate c zx.cells.toList).flatten := by
    have := madeCells_zero zx.cells.toList hne c
    have hl : zx.cells.toList.length = i.size := by rw [hzr.1, hzl, hisz]
    rw [hl] at this
    simpa using this
  have hreps : ∀ n : Nat, Reps G (List.replicate n zx.cells.toList).flatten (List.replicate n z).flatten := by
    intro n
    induction n with
    | zero => exact Reps.nil G
    | succ n ih => rw [List.replicate_succ, List.replicate_succ, List.flatten_cons, List.flatten_cons]; exact hzr.append ih
  have hI' := hI.allocCells (List.replicate c zx.cells.toList).flatten (List.replicate c z).flatten e (hreps c) (fun u hu => by
    simp only [List.mem_flatten] at hu
    obtain ⟨l, hl, hul⟩ := hu
    rw [List.eq_of_mem_replicate hl] at hul
    exact hz1 u hul)
  have harr : madeCells zx.cells (c * i.size) = (List.replicate c zx.cells.toList).flatten.toArray := by rw [← hcells]
  simp only [Int.toNat_natCast] at hrun
  rw [harr] at hrun
  refine wp_value ?_ (hnext (.slice (some ⟨w.heap.size, 0, none⟩) c c) _ _ _ _ (.refl G) hI' (.v _) (hK _ (hI.fresh (Nat.le_refl _))))
  simp only [execOp, ho, hxv, hyv]
  exact execOp_v' (by simpa using hrun)

section lits
variable {dst : Option Tmp} {ty : TypeId} {pos : String} {aft : Array Edge}

theorem runO_buildSlice {t e n sz : Nat} {parts : Array (Nat × Operand)} {z : List D} (hu : P.underlying t = some (.slice e))
    (hsz : szT P e = some sz) (hz : zeroT P e = some z) (hzl : z.length = sz) (hn : parts.toList.length = n) (hfull : fullParts (partsA (ev env) parts.toList) 0 = true)
    (hs : (partsA (ev env) parts.toList).all (fun x => x.2.cells.length == sz && x.2.stor) = true) (hle : n * sz ≤ 16777216)
    (h : RunO P W f N Q ops l k (put N env dst (if n = 0 then .nil else .list ((partsA (ev env) parts.toList).map fun x => x.2.cells.map D.flat))) H) :
    RunO P W f N Q ops (⟨dst, .buildSlice t n parts, ty, pos, aft, none⟩ :: l) k env H :=
  runO_op rfl (opOk_buildSlice rfl hu hsz hz hzl hn hfull (by simpa using hs) hle h)

theorem runO_buildSliceG {t e n sz : Nat} {parts : Array (Nat × Operand)} {z : List D} {j : Nat} {g : Bool} {cs : List Bool} (ht : guardA ops env j g = some cs) (hu : P.underlying t = some (.slice e))
    (hsz : szT P e = some sz) (hz : zeroT P e = some z) (hzl : z.length = sz) (hn : parts.toList.length = n) (hfull : fullParts (partsA (fun x => stripL cs (ev env x)) parts.toList) 0 = true)
    (hs : (partsA (fun x => stripL cs (ev env x)) parts.toList).all (fun x => x.2.cells.length == sz && x.2.stor) = true) (hle : n * sz ≤ 16777216)
    (h : RunO P W f N Q ops l k (put N env dst (wrapL cs (if n = 0 then .nil else .list ((partsA (fun x => stripL cs (ev env x)) parts.toList).map fun x => x.2.cells.map D.flat)))) H) :
    RunO P W f N Q ops (⟨dst, .buildSlice t n parts, ty, pos, aft, some (j, g)⟩ :: l) k env H :=
  runO_guarded rfl ht (fun _ => opOk_buildSlice rfl hu hsz hz hzl hn hfull (by simpa using hs) hle ⟨rfl, rfl⟩) h

theorem runO_append_own {s x : Operand} {t e sz by_ b cap : Nat} {z : List D} {xs ys : List (List D)}
    (hu : P.underlying t = some (.slice e)) (hsz : szT P e = some sz) (hby : bytesT P e = some by_) (hz : zeroT P e = some z) (hzl : z.length = sz) (hs : ev env s = .own b cap xs) (hx : (ev env x).elems = some ys)
    (hb : H b = some (.grow e xs.length cap sz)) (hsx : ∀ ds ∈ xs, ds.length = sz) (hsy : ∀ ds ∈ ys, ds.length = sz) (hlen : (xs.length + ys.length) * by_ ≤ 140737488355328) (hlen2 : xs.length + ys.length ≤ maxLen)
    (h : ∀ b' cap', (H.del b) b' = none → RunO P W f N Q ops l k (put N env dst (.own b' cap' (xs ++ ys))) ((H.del b).set b' (.grow e (xs.length + ys.length) cap' sz))) :
    RunO P W f N Q ops (⟨dst, .call ⟨.builtin .append, #[s, x], #[t, t]⟩, ty, pos, aft, none⟩ :: l) k env H :=
  runO_op rfl (opOk_append_own rfl hu hsz hby hz hzl hs hx hb hsx hsy hlen hlen2 h)

theorem runO_append_nil {s x : Operand} {t e sz by_ : Nat} {z : List D} {ys : List (List D)}
    (hu : P.underlying t = some (.slice e)) (hsz : szT P e = some sz) (hby : bytesT P e = some by_) (hz : zeroT P e = some z) (hzl : z.length = sz) (hs : ev env s = .nil) (hx : (ev env x).elems = some ys)
    (hsy : ∀ ds ∈ ys, ds.length = sz) (hlen : ys.length * by_ ≤ 140737488355328) (hlen2 : ys.length ≤ maxLen)
    (h0 : ys = [] → RunO P W f N Q ops l k (put N env dst .nil) H) (h : ys ≠ [] → ∀ b cap, H b = none → RunO P W f N Q ops l k (put N env dst (.own b cap ys)) (H.set b (.grow e ys.length cap sz))) :
    RunO P W f N Q ops (⟨dst, .call ⟨.builtin .append, #[s, x], #[t, t]⟩, ty, pos, aft, none⟩ :: l) k env H :=
  runO_op rfl (opOk_append_nil rfl hu hsz hby hz hzl hs hx hsy hlen hlen2 h0 h)

/-- A list that a variable collects: nothing yet, or a block with room that is ours. -/
inductive Coll (H0 : Heap) (e sz : Nat) (xs : List (List D)) : D → Heap → Prop
  | none (h : xs = []) : Coll H0 e sz xs .nil H0
  | some (b cap : Nat) (hb : H0 b = .none) : Coll H0 e sz xs (.own b cap xs) (H0.set b (.grow e xs.length cap sz))

theorem Coll.flat {H0 H : Heap} {e sz : Nat} {xs : List (List D)} {d : D} (h : Coll H0 e sz xs d H) : d.flat = .list xs := by
  cases h with
  | none h => subst h; rfl
  | some b cap hb => rfl
theorem Coll.sub {H0 H : Heap} {e sz : Nat} {xs : List (List D)} {d : D} (h : Coll H0 e sz xs d H) : H0.sub H := by
  cases h with
  | none h => exact Heap.sub_refl _
  | some b cap hb => exact Heap.sub_set (Heap.sub_refl _) hb
theorem Coll.elems {H0 H : Heap} {e sz : Nat} {xs : List (List D)} {d : D} (h : Coll H0 e sz xs d H) : d.elems = .some xs := by
  cases h with
  | none h => subst h; rfl
  | some b cap hb => rfl

/-- append to such a list: it collects more. -/
theorem runO_coll {s x : Operand} {t e sz by_ : Nat} {z : List D} {H0 : Heap} {xs ys : List (List D)}
    (hu : P.underlying t = some (.slice e)) (hsz : szT P e = some sz) (hby : bytesT P e = some by_) (hz : zeroT P e = some z) (hzl : z.length = sz) (hc : Coll H0 e sz xs (ev env s) H) (hx : (ev env x).elems = some ys)
    (hsx : ∀ ds ∈ xs, ds.length = sz) (hsy : ∀ ds ∈ ys, ds.length = sz) (hlen : (xs.length + ys.length) * by_ ≤ 140737488355328) (hlen2 : xs.length + ys.length ≤ maxLen)
    (h : ∀ d H', Coll H0 e sz (xs ++ ys) d H' → RunO P W f N Q ops l k (put N env dst d) H') :
    RunO P W f N Q ops (⟨dst, .call ⟨.builtin .append, #[s, x], #[t, t]⟩, ty, pos, aft, none⟩ :: l) k env H := by
  generalize hs : ev env s = d at hc
  cases hc with
  | none h0 =>
    subst h0
    simp only [List.length_nil, Nat.zero_add] at hlen hlen2
    exact runO_append_nil hu hsz hby hz hzl hs hx hsy hlen hlen2 (fun e => h _ _ (.none (by simp [e]))) (fun _ b cap hb => h _ _ (by simpa using Coll.some (xs := ys) b cap hb))
  | some b cap hb =>
    have hdel : (H0.set b (.grow e xs.length cap sz)).del b = H0 := by
      funext c
      simp only [Heap.del, Heap.set]
      split
      · rename_i e; subst e; exact hb.symm
      · rfl
    refine runO_append_own hu hsz hby hz hzl hs hx (by simp [Heap.set]) hsx hsy hlen hlen2 fun b' cap' hb' => ?_
    rw [hdel] at hb' ⊢
    exact h _ _ (by simpa using Coll.some (xs := xs ++ ys) b' cap' hb')

theorem runO_bytes {st t e : Nat} {x : Operand} {s : ByteArray} (hus : P.underlying st = some .string)
    (hut : P.underlying t = some (.slice e)) (hue : P.underlying e = some (.int .u8)) (hx : ev env x = .v (.string s)) (h : RunO P W f N Q ops l k (put N env dst (.list (bytesC s.data.toList))) H) :
    RunO P W f N Q ops (⟨dst, .convert st t x, ty, pos, aft, none⟩ :: l) k env H := runO_op rfl (opOk_bytes rfl hus hut hue hx h)

theorem runO_string {st t e : Nat} {x : Operand} {ns : List Int} (hus : P.underlying st = some (.slice e))
    (hut : P.underlying t = some .string) (hue : P.underlying e = some (.int .u8)) (hx : (ev env x).elems = some (numsC ns)) (h : RunO P W f N Q ops l k (put N env dst (.v (.string (strOfNums ns)))) H) :
    RunO P W f N Q ops (⟨dst, .convert st t x, ty, pos, aft, none⟩ :: l) k env H := runO_op rfl (opOk_string rfl hus hut hue hx h)

theorem runO_make_own {t e sz by_ : Nat} {z : List D} {x y : Operand} {k1 k2 : IntKind} {c : Nat}
    (hu : P.underlying t = some (.slice e)) (hsz : szT P e = some sz) (hby : bytesT P e = some by_) (hz : zeroT P e = some z) (hx : ev env x = .v (.int k1 0)) (hy : ev env y = .v (.int k2 (c : Int)))
    (hlen : c * by_ ≤ 140737488355328) (hlen2 : c ≤ maxLen) (h : ∀ b, H b = none → RunO P W f N Q ops l k (put N env dst (.own b c [])) (H.set b (.grow e 0 c sz))) :
    RunO P W f N Q ops (⟨dst, .makeSlice t x y, ty, pos, aft, none⟩ :: l) k env H := runO_op rfl (opOk_make_own rfl hu hsz hby hz hx hy hlen hlen2 h)

theorem runO_make_cells {t e sz by_ : Nat} {z : List D} {x y : Operand} {k1 k2 : IntKind} {c : Nat}
    (hu : P.underlying t = some (.slice e)) (hsz : szT P e = some sz) (hby : bytesT P e = some by_) (hz : zeroT P e = some z) (hzl : z.length = sz) (hpos : 0 < sz) (hx : ev env x = .v (.int k1 (c : Int))) (hy : ev env y = .v (.int k2 (c : Int)))
    (hlen : c * by_ ≤ 140737488355328) (hlen2 : c ≤ maxLen) (h : ∀ b, H b = none → RunO P W f N Q ops l k (put N env dst (.v (.slice (some ⟨b, 0, none⟩) c c))) (H.set b (.cells (List.replicate c z).flatten e))) :
    RunO P W f N Q ops (⟨dst, .makeSlice t x y, ty, pos, aft, none⟩ :: l) k env H := runO_op rfl (opOk_make_cells rfl hu hsz hby hz hzl hpos hx hy hlen hlen2 h)
end lits
end
attribute [go_sem] fullParts
end Go.Sn
