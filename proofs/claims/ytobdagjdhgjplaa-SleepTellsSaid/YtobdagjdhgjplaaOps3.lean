/-
  A program logic over the kit's `Calls`. Part 4: all operations that leave the world alone.
-/
import Derived.Test.YtobdagjdhgjplaaOps2
namespace Go.Sn
open Go Go.RowKit
set_option linter.unusedVariables false
set_option linter.unusedSimpArgs false

/-- The cells of a value. -/
def D.cells : D → List D
  | .agg ds => ds
  | d => [d]

/-- A value that one cell holds. -/
def D.one : D → Bool
  | .v x => x.oneCell'
  | .agg _ => false
  | .tup _ => false
  | .gd _ _ => false
  | _ => true

/-- A value that cells hold: one cell, or an aggregate of such. -/
def D.stor : D → Bool
  | .agg ds => ds.all D.one
  | d => d.one

theorem Rep.cells {G : IG} {x : Value} {d : D} (h : Rep G x d) (h1 : d.stor = true) : Reps G x.cells.toList d.cells := by
  cases h with
  | agg cs ds hn hr => exact ⟨hn, hr⟩
  | v x =>
    have : x.oneCell' = true := by simpa [D.stor, D.one] using h1
    cases x <;> first | (simp [Value.oneCell'] at this; done) | exact Reps.cons (.v _) (Reps.nil G)
  | nil0 => exact Reps.cons .nil0 (Reps.nil G)
  | nil1 a => exact Reps.cons (.nil1 a) (Reps.nil G)
  | listE a => exact Reps.cons (.listE a) (Reps.nil G)
  | listNil => exact Reps.cons .listNil (Reps.nil G)
  | list b o n c sz xs f hn hc hl hg hr => exact Reps.cons (.list b o n c sz xs f hn hc hl hg hr) (Reps.nil G)
  | own b n c sz xs f hn hc hl hg hr => exact Reps.cons (.own b n c sz xs f hn hc hl hg hr) (Reps.nil G)
  | ip b o ds f hg hr => exact Reps.cons (.ip b o ds f hg hr) (Reps.nil G)
  | tup cs ds hn hr => exact absurd h1 (by simp [D.stor, D.one])
  | gdT x d hr => simp [D.stor, D.one] at h1
  | gdF d => simp [D.stor, D.one] at h1

theorem Rep.one {G : IG} {x : Value} {d : D} (h : Rep G x d) (h1 : d.one = true) : x.oneCell' = true := by
  cases h <;> simp_all [D.one, Value.oneCell']

theorem Rep.stor {G : IG} {x : Value} {d : D} (h : Rep G x d) (h1 : d.stor = true) : Reps G x.cells.toList d.cells ∧ ∀ c ∈ x.cells.toList, c.oneCell' = true := by
  refine ⟨h.cells h1, ?_⟩
  cases h with
  | agg cs ds hn hr =>
    intro c hc
    simp [D.stor] at h1
    simp [Value.cells] at hc
    obtain ⟨k, hk, rfl⟩ := List.getElem_of_mem hc
    have hk' : k < ds.length := by omega
    exact (hr k ds[k] cs[k] (List.getElem?_eq_getElem hk') (List.getElem?_eq_getElem hk)).one (h1 _ (List.getElem_mem hk'))
  | v x =>
    simp [D.stor, D.one] at h1
    intro c hc
    cases x <;> simp_all [Value.cells, Value.oneCell']
  | _ => intro c hc; simp_all [Value.cells, Value.oneCell', D.stor, D.one]

/-! ### structs and arrays, built -/

/-- The places of a struct's fields, of an array's elements. -/
def fieldPlaces (P : Program) : List Field → Option (List (Nat × Nat))
  | [] => some []
  | f :: fs => match szT P f.type, fieldPlaces P fs with
    | some n, some l => some ((f.offset, n) :: l)
    | _, _ => none

def placesT (P : Program) (t : TypeId) : Option (List (Nat × Nat)) :=
  match P.underlying t with
  | some (.struct fields) => fieldPlaces P fields.toList
  | some (.array len e) => match szT P e with
    | some n => some ((List.range len).map fun i => (i * n, n))
    | none => none
  | _ => none

def fillA (place : Nat → Option (Nat × Nat)) (cells : List D) : List (Nat × D) → Option (List D)
  | [] => some cells
  | (i, d) :: rest =>
    match place i with
    | none => none
    | some (off, size) =>
      if d.cells.length = size ∧ off + size ≤ cells.length ∧ d.stor = true
      then fillA place (cells.take off ++ d.cells ++ cells.drop (off + size)) rest else none

theorem set_take_drop {α : Type} (cs l : List α) (v : α) (o : Nat) (h : o + (l.length + 1) ≤ cs.length) :
    (cs.set o v).take (o + 1) ++ l ++ (cs.set o v).drop (o + 1 + l.length) = cs.take o ++ (v :: l) ++ cs.drop (o + (l.length + 1)) := by
  have h0 : o < cs.length := by omega
  have h1 : (cs.set o v).take (o + 1) = cs.take o ++ [v] := by
    rw [List.take_add_one, List.take_set_of_le (Nat.le_refl _)]
    simp [h0]
  rw [h1, List.drop_set_of_lt (by omega)]
  simp [Nat.add_assoc, Nat.add_comm 1]

theorem foldl_zipIdx_set (off : Nat) : ∀ (l : List Value) (j : Nat) (cs : Array Value), off + j + l.length ≤ cs.size →
    ((l.zipIdx j).foldl (fun cs x => cs.setIfInBounds (off + x.2) x.1) cs).toList = cs.toList.take (off + j) ++ l ++ cs.toList.drop (off + j + l.length)
  | [], j, cs, _ => by simp
  | v :: l, j, cs, h => by
    simp only [List.zipIdx_cons, List.foldl_cons]
    simp only [List.length_cons] at h
    rw [foldl_zipIdx_set off l (j + 1) _ (by simp; omega)]
    simp only [Array.toList_setIfInBounds, List.length_cons]
    exact set_take_drop cs.toList l v (off + j) (by simpa using h)

theorem fillA_ok {G : IG} (placeC placeA : Nat → Option (Nat × Nat)) (hpl : ∀ i x, placeA i = some x → placeC i = some x) :
    ∀ (parts : List (Nat × D)) (vs : List (Nat × Value)) (cells r : List D) (cs : Array Value), fillA placeA cells parts = some r → Reps G cs.toList cells →
      parts.length = vs.length → (∀ (k : Nat) (a : Nat × D) (b : Nat × Value), parts[k]? = some a → vs[k]? = some b → a.1 = b.1 ∧ Rep G b.2 a.2) →
      ∃ cs' : Array Value, Instr.fill placeC cs vs = some cs' ∧ Reps G cs'.toList r
  | [], vs, cells, r, cs, hf, hr, hl, _ => by
    simp [fillA] at hf
    subst hf
    have : vs = [] := List.eq_nil_of_length_eq_zero (by simpa using hl.symm)
    subst this
    exact ⟨cs, rfl, hr⟩
  | (i, d) :: rest, vs, cells, r, cs, hf, hr, hl, hv => by
    cases vs with
    | nil => simp at hl
    | cons x vs =>
      obtain ⟨i', x⟩ := x
      obtain ⟨hi, hx⟩ := hv 0 _ _ rfl rfl
      simp at hi hx
      subst hi
      unfold fillA at hf
      split at hf
      · cases hf
      · rename_i off size hpa
        split at hf
        · rename_i hc
          obtain ⟨hlen, hle, hst⟩ := hc
          have hrx := (hx.stor hst).1
          have hxs : x.cells.size = size := by rw [← hlen, ← hrx.1]; simp
          have hcs : cs.size = cells.length := by rw [← hr.1]; simp
          have hq := foldl_zipIdx_set off x.cells.toList 0 cs (by simp; omega)
          unfold Instr.fill
          simp only [hpl _ _ hpa]
          rw [if_neg (by simp; omega)]
          refine fillA_ok placeC placeA hpl rest vs _ r _ hf ?_ (by simpa using hl) (fun k a b ha hb => hv (k + 1) a b (by simpa using ha) (by simpa using hb))
          have he : (x.cells.zipIdx.foldl (fun cs x => cs.setIfInBounds (off + x.2) x.1) cs).toList = cs.toList.take off ++ x.cells.toList ++ cs.toList.drop (off + size) := by
            rw [← Array.foldl_toList, Array.toList_zipIdx, hq]
            simp [hxs]
          have he' : (x.cells.zipIdx.foldl (fun cs x => match x with | (c, j) => cs.setIfInBounds (off + j) c) cs).toList = cs.toList.take off ++ x.cells.toList ++ cs.toList.drop (off + size) := he
          rw [he']
          exact ((hr.take off).append hrx).append (hr.drop _)
        · cases hf

def buildA (P : Program) (t : TypeId) (parts : List (Nat × D)) : Option (Prop × D) :=
  match zeroT P t, placesT P t with
  | some z, some l => match fillA (fun i => l[i]?) z parts with
    | some r => some (True, .agg r)
    | none => none
  | _, _ => none

section
variable {P : Program} {W : World} {G : IG} {H : Heap} {w : World}

theorem run_fieldPlaces : ∀ (fs : List Field) (l : List (Nat × Nat)), fieldPlaces P fs = some l →
    (fs.mapM (fun f => (do pure (f.offset, ← sizeOf f.type) : Sem (Nat × Nat)))).run P w = .ok l w
  | [], l, h => by simp [fieldPlaces] at h; subst h; simp
  | f :: fs, l, h => by
    unfold fieldPlaces at h
    split at h
    · rename_i n l' hn hl
      cases h
      have ih := run_fieldPlaces fs l' hl
      simp only [List.mapM_cons, Sem.run_bind, run_szT hn, Result.andThen_ok, Sem.run_pure] at ih ⊢
      rw [ih]
      rfl
    · cases h

theorem zeroT_run {t : Nat} {z : List D} (h : zeroT P t = some z) : ∃ x : Value, (zeroValue t).run P w = .ok x w ∧ Reps G x.cells.toList z ∧ ∀ c ∈ x.cells.toList, c.oneCell' = true := by
  unfold zeroT at h
  split at h
  · rename_i i hi
    split at h
    · rename_i x hx
      split at h
      · rename_i h1
        cases h
        refine ⟨x, by simp [zeroValue, typeInfo, hi, hx], ⟨by simp, fun k d c hd hc => ?_⟩, fun c hc => List.all_eq_true.1 h1 c hc⟩
        rw [List.getElem?_map, hc] at hd
        simp at hd
        subst hd
        exact rep_ofV G c
      · cases h
    · cases h
  · cases h

theorem buildA_ok {t : Nat} {parts : List (Nat × D)} {p : Prop} {r : D} (hl : buildA P t parts = some (p, r)) {vs : List (Nat × Value)} (hn : parts.length = vs.length)
    (hv : ∀ (k : Nat) (a : Nat × D) (b : Nat × Value), parts[k]? = some a → vs[k]? = some b → a.1 = b.1 ∧ Rep G b.2 a.2) :
    ∃ v, (Instr.build t vs.toArray).run P w = .ok v w ∧ Rep G v r := by
  unfold buildA at hl
  split at hl
  · rename_i z l hz hpl
    split at hl
    · rename_i r' hf
      simp at hl
      obtain ⟨_, rfl⟩ := hl
      obtain ⟨x, hx, hrx, _⟩ := zeroT_run (w := w) (G := G) hz
      unfold placesT at hpl
      split at hpl
      · rename_i fields hu
        obtain ⟨cs', hcs', hr'⟩ := fillA_ok (G := G) (fun i => l.toArray[i]?) _ (fun i x h => by simpa using h) parts vs z _ x.cells hf hrx hn hv
        refine ⟨.agg cs', ?_, Rep.mkAgg (cs := cs'.toList) hr'⟩
        have hm := run_fieldPlaces (P := P) (w := w) fields.toList l hpl
        simp only [Instr.build, Sem.run_bind, hx, Result.andThen_ok, run_underlying hu, Array.mapM_eq_mapM_toList, Sem.run_map]
        rw [hm]
        simp only [Result.andThen_ok]
        rw [hcs']
        rfl
      · rename_i len e hu
        split at hpl
        · rename_i n hsz
          cases hpl
          obtain ⟨cs', hcs', hr'⟩ := fillA_ok (G := G) (fun i => some (i * n, n)) _ (fun i x h => by
            simp only [List.getElem?_map, Option.map_eq_some_iff] at h
            obtain ⟨j, hj, rfl⟩ := h
            have := List.getElem?_eq_some_iff.1 hj
            obtain ⟨_, hj'⟩ := this
            simp at hj'
            simp [hj']) parts vs z _ x.cells hf hrx hn hv
          refine ⟨.agg cs', ?_, Rep.mkAgg (cs := cs'.toList) hr'⟩
          simp only [Instr.build, Sem.run_bind, hx, Result.andThen_ok, run_underlying hu, run_szT hsz]
          rw [hcs']
          rfl
        · cases hpl
      · cases hpl
    · cases hl
  · cases hl

/-! ### one-place operators, conversions of numbers, results -/

def unA (op : UnOp) : D → Option (Prop × D)
  | .v (.bool b) => match op with
    | .not => some (True, .v (.bool (!b)))
    | _ => none
  | .v (.int k n) => match op with
    | .neg => some (True, .v (.int k (k.wrap (0 - n))))
    | _ => none
  | _ => none

theorem unA_ok {op : UnOp} {d r : D} {p : Prop} {x : Value} (hl : unA op d = some (p, r)) (hx : Rep G x d) :
    ∃ v, (Op.unary op x).run P w = .ok v w ∧ Rep G v r := by
  unfold unA at hl
  split at hl
  · cases hx.inv_v
    split at hl
    · simp at hl; obtain ⟨_, rfl⟩ := hl; exact ⟨_, by simp [Op.unary], .v _⟩
    · cases hl
  · cases hx.inv_v
    split at hl
    · simp at hl; obtain ⟨_, rfl⟩ := hl; exact ⟨_, by simp [Op.unary, Op.intArith], .v _⟩
    · cases hl
  · cases hl

def convA (P : Program) (s t : TypeId) (x : D) : Option (Prop × D) :=
  match P.underlying s, P.underlying t with
  | some (.int _), some (.int k) => match x with
    | .v (.int _ n) => some (True, .v (.int k (k.wrap n)))
    | _ => none
  | some .string, some .string => match x with
    | .v (.string b) => some (True, .v (.string b))
    | _ => none
  | _, _ => none

theorem convA_ok {s t : Nat} {d r : D} {p : Prop} {x : Value} (hl : convA P s t d = some (p, r)) (hx : Rep G x d) :
    ∃ v, (convert s t x).run P w = .ok v w ∧ Rep G v r := by
  unfold convA at hl
  split at hl
  · rename_i k hs ht
    split at hl
    · cases hx.inv_v
      simp at hl; obtain ⟨_, rfl⟩ := hl
      exact ⟨_, by simp [convert, run_underlying hs, run_underlying ht, Conv.intToInt], .v _⟩
    · cases hl
  · rename_i hs ht
    split at hl
    · cases hx.inv_v
      simp at hl; obtain ⟨_, rfl⟩ := hl
      exact ⟨_, by simp [convert, run_underlying hs, run_underlying ht], .v _⟩
    · cases hl
  · cases hl

def lenA (P : Program) (H : Heap) (t : TypeId) (x : D) : Option (Prop × D) :=
  match P.underlying t with
  | some .string => match x with
    | .v (.string s) => some (True, .v (.int .i64 s.size))
    | _ => none
  | some (.slice _) => match x with
    | .v (.slice _ n _) => some (True, .v (.int .i64 n))
    | x => match x.elems with
      | some xs => some (True, .v (.int .i64 xs.length))
      | none => none
  | some (.array n _) => some (True, .v (.int .i64 n))
  | some (.map _ _) => match x with
    | .v (.map none) => some (True, .v (.int .i64 0))
    | .v (.map (some b)) => match H b with
      | some (.map es) => some (True, .v (.int .i64 es.length))
      | _ => none
    | _ => none
  | _ => none

theorem run_getObj {b : Nat} {o : Obj} (h : w.heap[b]? = some o) (ho : ∀ c e f, o ≠ .cells c e f) : (getObj b).run P w = .ok o w := by
  simp only [getObj, Sem.run, h]

theorem lenA_ok {t : Nat} {d r : D} {p : Prop} {x : Value} (hl : lenA P H t d = some (p, r)) (h : Inv W G H w) (hx : Rep G x d) (ty : TypeId) :
    ∃ v, (Builtin.len_ #[t] ty #[x]).run P w = .ok v w ∧ Rep G v r := by
  unfold lenA at hl
  split at hl
  · rename_i hu
    split at hl
    · cases hx.inv_v
      simp at hl; obtain ⟨_, rfl⟩ := hl
      exact ⟨_, by simp [Builtin.len_, run_underlying hu, goInt], .v _⟩
    · cases hl
  · rename_i e hu
    split at hl
    · cases hx.inv_v
      simp at hl; obtain ⟨_, rfl⟩ := hl
      exact ⟨_, by simp [Builtin.len_, run_underlying hu, goInt], .v _⟩
    · split at hl
      · rename_i xs hxs
        simp at hl; obtain ⟨_, rfl⟩ := hl
        rcases hx.inv_elems hxs with ⟨⟨ax, rfl⟩, rfl⟩ | ⟨b, o, c, sz, rfl, _, _, _⟩
        · exact ⟨_, by simp [Builtin.len_, run_underlying hu, goInt], .v _⟩
        · exact ⟨_, by simp [Builtin.len_, run_underlying hu, goInt], .v _⟩
      · cases hl
  · rename_i n e hu
    simp at hl; obtain ⟨_, rfl⟩ := hl
    exact ⟨_, by simp [Builtin.len_, run_underlying hu, goInt], .v _⟩
  · rename_i k e hu
    split at hl
    · cases hx.inv_v
      simp at hl; obtain ⟨_, rfl⟩ := hl
      exact ⟨_, by simp [Builtin.len_, run_underlying hu, goInt], .v _⟩
    · cases hx.inv_v
      split at hl
      · rename_i es hb
        simp at hl; obtain ⟨_, rfl⟩ := hl
        obtain ⟨_, ms, ck, hms, hlen, _⟩ := h.res _ _ hb
        exact ⟨_, by simp [Builtin.len_, run_underlying hu, goInt, run_getObj hms, hlen], .v _⟩
      · cases hl
    · cases hl
  · cases hl

def maxA (f : Int → Int → Int) : List D → Option (Prop × D)
  | [.v (.int k a), .v (.int k' b)] => if k = k' then some (True, .v (.int k (f a b))) else none
  | _ => none

/-- The greater, and the smaller, of two numbers. -/
def imax (a b : Int) : Int := if a < b then b else a
def imin (a b : Int) : Int := if b < a then b else a
theorem imax_eq (a b : Int) : imax a b = max a b := by unfold imax; omega
theorem imin_eq (a b : Int) : imin a b = min a b := by unfold imin; omega

theorem max_ok {ds : List D} {p : Prop} {r : D} (hl : maxA imax ds = some (p, r)) {vs : List Value} (hv : Reps G vs ds) (ts : Array TypeId) (ty : TypeId) :
    ∃ v, (Builtin.max_ ts ty vs.toArray).run P w = .ok v w ∧ Rep G v r := by
  unfold maxA at hl
  split at hl
  · rename_i k a k' b
    obtain ⟨c0, hc0, h0⟩ := hv.get (k := 0) rfl
    obtain ⟨c1, hc1, h1⟩ := hv.get (k := 1) rfl
    cases h0.inv_v; cases h1.inv_v
    have hlen := hv.1
    match vs, hlen, hc0, hc1 with
    | [x, y], _, hc0, hc1 =>
      simp at hc0 hc1
      subst hc0; subst hc1
      split at hl
      · rename_i hk
        subst hk
        simp at hl; obtain ⟨_, rfl⟩ := hl
        exact ⟨_, by simp [Builtin.max_, Builtin.max2, imax], .v _⟩
      · cases hl
  · cases hl

theorem min_ok {ds : List D} {p : Prop} {r : D} (hl : maxA imin ds = some (p, r)) {vs : List Value} (hv : Reps G vs ds) (ts : Array TypeId) (ty : TypeId) :
    ∃ v, (Builtin.min_ ts ty vs.toArray).run P w = .ok v w ∧ Rep G v r := by
  unfold maxA at hl
  split at hl
  · rename_i k a k' b
    obtain ⟨c0, hc0, h0⟩ := hv.get (k := 0) rfl
    obtain ⟨c1, hc1, h1⟩ := hv.get (k := 1) rfl
    cases h0.inv_v; cases h1.inv_v
    have hlen := hv.1
    match vs, hlen, hc0, hc1 with
    | [x, y], _, hc0, hc1 =>
      simp at hc0 hc1
      subst hc0; subst hc1
      split at hl
      · rename_i hk
        subst hk
        simp at hl; obtain ⟨_, rfl⟩ := hl
        exact ⟨_, by simp [Builtin.min_, Builtin.min2, imin], .v _⟩
      · cases hl
  · cases hl

def extractA (i : Nat) : D → Option (Prop × D)
  | .tup ds => match ds[i]? with
    | some d => some (True, d)
    | none => none
  | _ => none

theorem extractA_ok {i : Nat} {d r : D} {p : Prop} {x : Value} (hl : extractA i d = some (p, r)) (hx : Rep G x d) :
    ∃ v, (Instr.extract x i).run P w = .ok v w ∧ Rep G v r := by
  unfold extractA at hl
  split at hl
  · obtain ⟨cs, rfl, hr⟩ := hx.inv_tup
    split at hl
    · rename_i ds d hd
      simp at hl; obtain ⟨_, rfl⟩ := hl
      obtain ⟨c, hc, hrc⟩ := hr.get hd
      exact ⟨c, by simp [Instr.extract, hc], hrc⟩
    · cases hl
  · cases hl

/-- The choice between two values; of '||' and '&&' the plain word. -/
def selA (t : Bool) : D → D → D
  | .v (.bool true), .gd c (.v (.bool p)) => if (c == !t) = true then .v (.bool (t || p)) else if t = true then .v (.bool true) else .gd c (.v (.bool p))
  | .gd c (.v (.bool p)), .v (.bool false) => if (c == t) = true then .v (.bool (t && p)) else if t = true then .gd c (.v (.bool p)) else .v (.bool false)
  | a, b => if t = true then a else b

theorem selA_ok {G : IG} (t : Bool) {a b : D} {x y : Value} (hx : Rep G x a) (hy : Rep G y b) : Rep G (if t = true then x else y) (selA t a b) := by
  by_cases h1 : ∃ c p, a = .v (.bool true) ∧ b = .gd c (.v (.bool p))
  · obtain ⟨c, p, rfl, rfl⟩ := h1
    cases hx.inv_v
    cases t <;> cases c <;> simp [selA]
    · exact hy
    · exact (hy.inv_gd rfl).inv_v ▸ .v _
    · exact .v _
    · exact .v _
  · by_cases h2 : ∃ c p, a = .gd c (.v (.bool p)) ∧ b = .v (.bool false)
    · obtain ⟨c, p, rfl, rfl⟩ := h2
      cases hy.inv_v
      cases t <;> cases c <;> simp [selA]
      · exact .v _
      · exact .v _
      · exact hx
      · exact (hx.inv_gd rfl).inv_v ▸ .v _
    · have : selA t a b = if t = true then a else b := by
        unfold selA
        split
        · exact absurd ⟨_, _, rfl, rfl⟩ h1
        · exact absurd ⟨_, _, rfl, rfl⟩ h2
        · rfl
      rw [this]
      cases t
      · simpa using hy
      · simpa using hx

def pickA (c a b : D) : Option (Prop × D) :=
  match c with
  | .v (.bool t) => some (True, selA t a b)
  | _ => none

def nilCheckA : D → Option (Prop × D)
  | .v (.pointer (some a)) => some (True, .v (.pointer (some a)))
  | .ip ds => some (True, .ip ds)
  | .v (.func (.func f) first captured) => some (True, .v (.func (.func f) first captured))
  | _ => none

/-- Values that stand for themselves. -/
def litsA : List D → Option (List Value)
  | [] => some []
  | .v x :: ds => match litsA ds with
    | some l => some (x :: l)
    | none => none
  | _ :: _ => none

theorem litsA_ok : ∀ {ds : List D} {l : List Value} {vs : List Value}, litsA ds = some l → Reps G vs ds → vs = l
  | [], l, vs, h, hv => by
    simp [litsA] at h; subst h
    exact List.eq_nil_of_length_eq_zero (by simpa using hv.1)
  | d :: ds, l, vs, h, hv => by
    unfold litsA at h
    split at h
    · simp_all
    · rename_i x ds' heq
      cases heq
      split at h
      · rename_i l' hl'
        cases h
        match vs, hv with
        | [], hv => have := hv.1; simp at this
        | v :: vs, hv =>
          cases (hv.2 0 _ v rfl rfl).inv_v
          congr 1
          exact litsA_ok hl' ⟨by simpa using hv.1, fun k d c hd hc => hv.2 (k + 1) d c (by simpa using hd) (by simpa using hc)⟩
      · cases h
    · cases h

/-- An operand. -/
def ev (env : Nat → D) : Operand → D
  | .tmp t => env t
  | .const v => ofV v
  | .global g => .v (.pointer (some ⟨g, 0, none⟩))
  | .func f => .v (.func (.func f) #[] #[])

def partsA (ρ : Operand → D) (l : List (Nat × Operand)) : List (Nat × D) := l.map fun x => (x.1, ρ x.2)

/-- WHAT AN OPERATION THAT LEAVES THE WORLD ALONE GIVES: under which condition, and what. -/
def valA (P : Program) (ρ : Operand → D) (H : Heap) : Op → Option (Prop × D)
  | .move x => some (True, ρ x)
  | .assign x => some (True, ρ x)
  | .pick c a b => pickA (ρ c) (ρ a) (ρ b)
  | .load t a => loadA P H t (ρ a)
  | .nilCheck x => nilCheckA (ρ x)
  | .binOp op t x y _ => binA P op t (ρ x) (ρ y)
  | .unOp op _ x => unA op (ρ x)
  | .convert s t x => convA P s t (ρ x)
  | .build t parts => buildA P t (partsA ρ parts.toList)
  | .slice t x lo hi mx => sliceA P t (ρ x) (lo.map ρ) (hi.map ρ) (mx.map ρ)
  | .fieldAddr s x f => fieldAddrA P s f (ρ x)
  | .field s x f => fieldA P s f (ρ x)
  | .indexAddr t x i => indexAddrA P t (ρ x) (ρ i)
  | .index t x i => indexA P t (ρ x) (ρ i)
  | .extract x i => extractA i (ρ x)
  | .makeFunc fn first captured => match litsA (first.toList.map ρ), litsA (captured.toList.map ρ) with
    | some a, some b => some (True, .v (.func fn a.toArray b.toArray))
    | _, _ => none
  | .call c => match c.callee with
    | .builtin .len => match c.args.toList, c.argTypes.toList with
      | [x], [t] => lenA P H t (ρ x)
      | _, _ => none
    | .builtin .max => maxA imax (c.args.toList.map ρ)
    | .builtin .min => maxA imin (c.args.toList.map ρ)
    | _ => none
  | _ => none

theorem execOp_v {ρ : Operand → Value} {s : Sem Value} {v : Value} (h : s.run P w = .ok v w) : (do pure (Next.value (← s)) : Sem Next).run P w = .ok (.value v) w := by
  simp [h]

theorem reps_map {ρ : Operand → D} {ρv : Operand → Value} (l : List Operand) (hρ : ∀ x ∈ l, Rep G (ρv x) (ρ x)) : Reps G (l.map ρv) (l.map ρ) := by
  refine ⟨by simp, fun k d c hd hc => ?_⟩
  rw [List.getElem?_map] at hd hc
  cases hl : l[k]? with
  | none => simp [hl] at hd
  | some x => simp [hl] at hd hc; subst hd; subst hc; exact hρ x (List.mem_of_getElem? hl)

theorem repO_map {ρ : Operand → D} {ρv : Operand → Value} (o : Option Operand) (hρ : ∀ x, o = some x → Rep G (ρv x) (ρ x)) : RepO G (o.map ρv) (o.map ρ) := by
  cases o with
  | none => trivial
  | some x => exact hρ x rfl

theorem valA_ok {o : Oper} {ρ : Operand → D} {ρv : Operand → Value} {p : Prop} {r : D} (hl : valA P ρ H o.op = some (p, r)) (hp : p) (h : Inv W G H w)
    (hρ : ∀ x ∈ o.op.operands, Rep G (ρv x) (ρ x)) : ∃ v, (execOp ρv o).run P w = .ok (.value v) w ∧ Rep G v r := by
  obtain ⟨dst, op, ty, pos, aft, gd⟩ := o
  simp only at hl
  simp only at hρ
  cases op <;> simp only [valA] at hl
  case move x => simp at hl; obtain ⟨_, rfl⟩ := hl; exact ⟨_, by simp [execOp], hρ x (by simp [Op.operands])⟩
  case assign x => simp at hl; obtain ⟨_, rfl⟩ := hl; exact ⟨_, by simp [execOp], hρ x (by simp [Op.operands])⟩
  case pick c a b =>
    unfold pickA at hl
    split at hl
    · rename_i t ht
      have hc := hρ c (by simp [Op.operands])
      rw [ht] at hc
      have hcv := hc.inv_v
      simp at hl; obtain ⟨_, rfl⟩ := hl
      exact ⟨if t = true then ρv a else ρv b, by simp [execOp, hcv, asBool], selA_ok t (hρ a (by simp [Op.operands])) (hρ b (by simp [Op.operands]))⟩
    · cases hl
  case load t a =>
    obtain ⟨v, hv, hr⟩ := loadA_ok hl hp h (hρ a (by simp [Op.operands]))
    exact ⟨v, by simp only [execOp]; exact execOp_v (ρ := ρv) hv, hr⟩
  case nilCheck x =>
    have hx := hρ x (by simp [Op.operands])
    unfold nilCheckA at hl
    split at hl
    · rename_i a ha
      rw [ha] at hx
      have hxv := hx.inv_v
      simp at hl; obtain ⟨_, rfl⟩ := hl
      exact ⟨_, by simp [execOp, hxv], .v _⟩
    · rename_i ds hd
      rw [hd] at hx
      obtain ⟨b, q, hv, hc⟩ := hx.inv_ip
      simp at hl; obtain ⟨_, rfl⟩ := hl
      exact ⟨_, by simp [execOp, hv], Rep.mkIp hc⟩
    · rename_i f first captured ha
      rw [ha] at hx
      have hxv := hx.inv_v
      simp at hl; obtain ⟨_, rfl⟩ := hl
      exact ⟨_, by simp [execOp, hxv], .v _⟩
    · cases hl
  case binOp op t x y yt =>
    obtain ⟨v, hv, hr⟩ := binA_ok (w := w) hl hp (hρ x (by simp [Op.operands])) (hρ y (by simp [Op.operands])) x y
    exact ⟨v, by simp only [execOp]; exact execOp_v (ρ := ρv) hv, hr⟩
  case unOp op t x =>
    obtain ⟨v, hv, hr⟩ := unA_ok (w := w) (P := P) hl (hρ x (by simp [Op.operands]))
    exact ⟨v, by simp only [execOp]; exact execOp_v (ρ := ρv) hv, hr⟩
  case convert s t x =>
    obtain ⟨v, hv, hr⟩ := convA_ok (w := w) hl (hρ x (by simp [Op.operands]))
    exact ⟨v, by simp only [execOp]; exact execOp_v (ρ := ρv) hv, hr⟩
  case build t parts =>
    obtain ⟨v, hv, hr⟩ := buildA_ok (w := w) (G := G) hl (vs := parts.toList.map fun x => (x.1, ρv x.2)) (by simp [partsA]) (fun k a b ha hb => by
      simp only [partsA, List.getElem?_map] at ha hb
      cases hk : parts.toList[k]? with
      | none => rw [hk] at ha; simp at ha
      | some x => rw [hk] at ha hb; simp at ha hb; subst ha; subst hb; exact ⟨rfl, hρ _ (by simp only [Op.operands, List.mem_toArray, List.mem_map]; exact ⟨_, List.mem_of_getElem? hk, rfl⟩)⟩)
    refine ⟨v, ?_, hr⟩
    simp only [execOp]
    refine execOp_v (ρ := ρv) ?_
    rw [← hv]
    congr 2
    simp [← List.map_toArray]
  case slice t x lo hi mx =>
    obtain ⟨v, hv, hr⟩ := sliceA_ok (w := w) hl hp (hρ x (by simp [Op.operands])) (repO_map lo fun y h => hρ y (by simp [Op.operands, h])) (repO_map hi fun y h => hρ y (by simp [Op.operands, h])) (repO_map mx fun y h => hρ y (by simp [Op.operands, h]))
    exact ⟨v, by simp only [execOp]; exact execOp_v (ρ := ρv) hv, hr⟩
  case fieldAddr s x f =>
    obtain ⟨v, hv, hr⟩ := fieldAddrA_ok (w := w) hl (hρ x (by simp [Op.operands]))
    exact ⟨v, by simp only [execOp]; exact execOp_v (ρ := ρv) hv, hr⟩
  case field s x f =>
    obtain ⟨v, hv, hr⟩ := fieldA_ok (w := w) hl hp (hρ x (by simp [Op.operands]))
    exact ⟨v, by simp only [execOp]; exact execOp_v (ρ := ρv) hv, hr⟩
  case indexAddr t x i =>
    obtain ⟨v, hv, hr⟩ := indexAddrA_ok (w := w) hl hp (hρ x (by simp [Op.operands])) (hρ i (by simp [Op.operands]))
    exact ⟨v, by simp only [execOp]; exact execOp_v (ρ := ρv) hv, hr⟩
  case index t x i =>
    obtain ⟨v, hv, hr⟩ := indexA_ok (w := w) hl hp (hρ x (by simp [Op.operands])) (hρ i (by simp [Op.operands]))
    exact ⟨v, by simp only [execOp]; exact execOp_v (ρ := ρv) hv, hr⟩
  case extract x i =>
    obtain ⟨v, hv, hr⟩ := extractA_ok (w := w) (P := P) hl (hρ x (by simp [Op.operands]))
    exact ⟨v, by simp only [execOp]; exact execOp_v (ρ := ρv) hv, hr⟩
  case makeFunc fn first captured =>
    split at hl
    · rename_i a b ha hb
      simp at hl; obtain ⟨_, rfl⟩ := hl
      have h1 := litsA_ok ha (reps_map first.toList fun y h => hρ y (by simp only [Op.operands, Array.mem_append]; exact .inl (by simpa using h)))
      have h2 := litsA_ok hb (reps_map captured.toList fun y h => hρ y (by simp only [Op.operands, Array.mem_append]; exact .inr (by simpa using h)))
      have h1' : first.map ρv = a.toArray := by rw [← h1]; simp [← List.map_toArray]
      have h2' : captured.map ρv = b.toArray := by rw [← h2]; simp [← List.map_toArray]
      exact ⟨_, by simp [execOp, Instr.makeFunc, h1', h2'], .v _⟩
    · cases hl
  case call c =>
    obtain ⟨callee, args, ats⟩ := c
    simp only at hl
    split at hl
    · split at hl
      · rename_i x t hx ht
        have ha : args = #[x] := by rw [← Array.toArray_toList (xs := args), hx]
        have hat : ats = #[t] := by rw [← Array.toArray_toList (xs := ats), ht]
        subst ha; subst hat
        obtain ⟨v, hv, hr⟩ := lenA_ok (P := P) hl h (hρ x (by simp [Op.operands, Call.operands])) ty
        exact ⟨v, by simp [execOp, resolve, invoke, builtin, hv], hr⟩
      · cases hl
    · obtain ⟨v, hv, hr⟩ := max_ok (P := P) (w := w) hl (reps_map args.toList fun y h => hρ y (by simp only [Op.operands, Call.operands, Array.mem_append]; exact .inr (by simpa using h))) ats ty
      have ha : args.map ρv = (args.toList.map ρv).toArray := by simp [← List.map_toArray]
      exact ⟨v, by simp [execOp, resolve, invoke, builtin, ha, hv], hr⟩
    · obtain ⟨v, hv, hr⟩ := min_ok (P := P) (w := w) hl (reps_map args.toList fun y h => hρ y (by simp only [Op.operands, Call.operands, Array.mem_append]; exact .inr (by simpa using h))) ats ty
      have ha : args.map ρv = (args.toList.map ρv).toArray := by simp [← List.map_toArray]
      exact ⟨v, by simp [execOp, resolve, invoke, builtin, ha, hv], hr⟩
    · cases hl
  all_goals cases hl
end

end Go.Sn
