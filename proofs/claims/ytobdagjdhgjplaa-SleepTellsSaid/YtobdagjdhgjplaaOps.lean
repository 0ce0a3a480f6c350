/-
  A program logic over the kit's `Calls`. Part 2: what each operation gives.
-/
import Derived.Test.YtobdagjdhgjplaaCore
namespace Go.Sn
open Go Go.RowKit
set_option linter.unusedVariables false
set_option linter.unusedSimpArgs false

/-! ### types -/

def szT (P : Program) (t : TypeId) : Option Nat := (P.info? t).map (·.size)
def bytesT (P : Program) (t : TypeId) : Option Nat := (P.info? t).map (·.bytes)
def aggT (P : Program) (t : TypeId) : Option Bool := (P.underlying t).map fun | .struct _ => true | .array _ _ => true | _ => false
def fieldT (P : Program) (s f : Nat) : Option Field :=
  match P.underlying s with
  | some (.struct fields) => fields[f]?
  | _ => none
/-- A field's place: not of a type without cells. -/
def offT (P : Program) (s f : Nat) : Option Nat :=
  match fieldT P s f with
  | some d => match szT P d.type with
    | some n => if n = 0 then none else some d.offset
    | none => none
  | none => none
/-- A field's type and place. -/
def ftoT (P : Program) (s f : Nat) : Option (TypeId × Nat) := (fieldT P s f).map fun d => (d.type, d.offset)
/-- The zero value's cells. -/
def zeroT (P : Program) (t : TypeId) : Option (List D) :=
  match P.info? t with
  | some i => match i.zero with
    | some z => if z.cells.toList.all Value.oneCell' then some (z.cells.toList.map ofV) else none
    | none => none
  | none => none

section
variable {P : Program}

theorem run_szT {t n : Nat} (h : szT P t = some n) (w : World) : (sizeOf t).run P w = .ok n w := by
  unfold szT at h
  cases hi : P.info? t with
  | none => simp [hi] at h
  | some i => simp [hi] at h; simp [sizeOf, typeInfo, hi, h]

theorem run_aggT {t : Nat} {b : Bool} (h : aggT P t = some b) (w : World) : (isAgg t).run P w = .ok b w := by
  unfold aggT at h
  cases hi : P.underlying t with
  | none => simp [hi] at h
  | some d =>
    simp [hi] at h
    subst h
    cases d <;> simp [isAgg, run_underlying hi]

/-! ### loads -/

def loadA (P : Program) (H : Heap) (t : TypeId) : D → Option (Prop × D)
  | .v (.pointer (some ⟨b, o, none⟩)) =>
    match H b with
    | some (.cells ds _) =>
      match aggT P t with
      | some true => match szT P t with
        | some n => some (o + n ≤ ds.length, .agg ((ds.drop o).take n))
        | none => none
      | some false => some (o < ds.length, ds.getD o default)
      | none => none
    | _ => none
  | .ip ds =>
    match aggT P t with
    | some true => match szT P t with
      | some n => some (n ≤ ds.length, .agg (ds.take n))
      | none => none
    | some false => some (0 < ds.length, ds.getD 0 default)
    | none => none
  | _ => none

theorem run_loadVar_agg {t n : Nat} (ha : aggT P t = some true) (hs : szT P t = some n) {w : World} {a : Addr} {cs : List Value} (hl : cs.length = n)
    (h : ∀ j v, cs[j]? = some v → w.cell? (a.add j) = some v) : (loadVar t a).run P w = .ok (.agg cs.toArray) w := by
  subst hl
  simp [loadVar, run_aggT ha, run_szT hs, run_loadCells_list w a cs h]

theorem run_loadVar_one {t : Nat} (ha : aggT P t = some false) {w : World} {a : Addr} {x : Value} (h : w.cell? a = some x) :
    (loadVar t a).run P w = .ok x w := by
  simp [loadVar, run_aggT ha, h]

variable {W : World} {G : IG} {H : Heap} {w : World}

theorem Inv.cell {b o : Nat} {ds : List D} {e : TypeId} (h : Inv W G H w) (hb : H b = some (.cells ds e)) {d : D} (hd : ds[o]? = some d) :
    ∃ x, w.cell? ⟨b, o, none⟩ = some x ∧ Rep G x d := by
  obtain ⟨_, cs, hcs, hr, _, _⟩ := h.res b _ hb
  obtain ⟨c, hc, hrc⟩ := hr.get hd
  exact ⟨c, by rw [cell_of_row w b o _ e _ hcs]; simpa using hc, hrc⟩

theorem loadA_ok {t : Nat} {d r : D} {p : Prop} {x : Value} (hl : loadA P H t d = some (p, r)) (hp : p) (h : Inv W G H w) (hx : Rep G x d) :
    ∃ v, (Instr.loadAt t x).run P w = .ok v w ∧ Rep G v r := by
  unfold loadA at hl
  split at hl
  · rename_i b o
    cases hx.inv_v
    split at hl
    · rename_i ds e hb
      obtain ⟨_, cs, hcs, hr, _, _⟩ := h.res b _ hb
      split at hl
      · rename_i ha
        split at hl
        · rename_i n hs
          simp at hl
          obtain ⟨hp', rfl⟩ := hl
          rw [← hp'] at hp
          refine ⟨.agg ((cs.drop o).take n).toArray, ?_, Rep.mkAgg ((hr.drop o).take n)⟩
          simp only [Instr.loadAt, Instr.sureAddr, Sem.run_bind, Sem.run_pure, Result.andThen_ok]
          refine run_loadVar_agg ha hs ?_ fun j v hv => ?_
          · have := hr.1; simp; omega
          · rw [Addr.add_lit, cell_of_row w b _ _ e _ hcs]
            rw [List.getElem?_take] at hv
            split at hv
            · rw [List.getElem?_drop] at hv; simpa using hv
            · cases hv
        · cases hl
      · rename_i ha
        simp at hl
        obtain ⟨hp', rfl⟩ := hl
        rw [← hp'] at hp
        have hd : ds[o]? = some (ds.getD o default) := by simp [List.getD, List.getElem?_eq_getElem hp]
        obtain ⟨c, hc, hrc⟩ := hr.get hd
        refine ⟨c, ?_, by simpa [List.getD] using hrc⟩
        simp only [Instr.loadAt, Instr.sureAddr, Sem.run_bind, Sem.run_pure, Result.andThen_ok]
        refine run_loadVar_one ha ?_
        rw [cell_of_row w b o _ e _ hcs]; simpa using hc
      · cases hl
    · cases hl
  · rename_i ds
    obtain ⟨b, o, rfl, hc⟩ := hx.inv_ip
    split at hl
    · rename_i ha
      split at hl
      · rename_i n hs
        simp at hl
        obtain ⟨hp', rfl⟩ := hl
        rw [← hp'] at hp
        obtain ⟨cs, hr, hcs⟩ := (hc.take n).reps
        refine ⟨.agg cs.toArray, ?_, Rep.mkAgg hr⟩
        simp only [Instr.loadAt, Instr.sureAddr, Sem.run_bind, Sem.run_pure, Result.andThen_ok]
        refine run_loadVar_agg ha hs ?_ fun j v hv => ?_
        · have := hr.1; simp at this; omega
        · rw [Addr.add_lit]; exact (h.imm b _ v (hcs j v hv)).1
      · cases hl
    · rename_i ha
      simp at hl
      obtain ⟨hp', rfl⟩ := hl
      rw [← hp'] at hp
      have hd : ds[0]? = some (ds.getD 0 default) := by simp [List.getD, List.getElem?_eq_getElem hp]
      obtain ⟨c, hc', hrc⟩ := hc 0 _ hd
      refine ⟨c, ?_, by simpa [List.getD] using hrc⟩
      simp only [Instr.loadAt, Instr.sureAddr, Sem.run_bind, Sem.run_pure, Result.andThen_ok]
      exact run_loadVar_one ha (h.imm b _ c hc').1
    · cases hl
  · cases hl

/-! ### fields, elements -/

def fieldAddrA (P : Program) (s f : Nat) : D → Option (Prop × D)
  | .v (.pointer (some ⟨b, o, none⟩)) => match offT P s f with
    | some n => some (True, .v (.pointer (some ⟨b, o + n, none⟩)))
    | none => none
  | .ip ds => match offT P s f with
    | some n => some (True, .ip (ds.drop n))
    | none => none
  | _ => none

theorem offT_run {s f n : Nat} (h : offT P s f = some n) (w : World) (b o : Nat) :
    (Instr.fieldAt s (.pointer (some ⟨b, o, none⟩)) f).run P w = .ok (.pointer (some ⟨b, o + n, none⟩)) w := by
  unfold offT fieldT at h
  split at h
  · rename_i d hd
    split at hd
    · rename_i fields hu
      split at h
      · rename_i m hm
        split at h
        · cases h
        · rename_i hm0
          simp at h
          subst h
          simp [Instr.fieldAt, run_underlying hu, hd, Instr.sureAddr, fieldPlace, run_szT hm, hm0, Addr.add_lit]
      · cases h
    · cases hd
  · cases h

theorem fieldAddrA_ok {s f : Nat} {d r : D} {p : Prop} {x : Value} (hl : fieldAddrA P s f d = some (p, r)) (hx : Rep G x d) :
    ∃ v, (Instr.fieldAt s x f).run P w = .ok v w ∧ Rep G v r := by
  unfold fieldAddrA at hl
  split at hl
  · cases hx.inv_v
    split at hl
    · rename_i n hn
      simp at hl
      obtain ⟨_, rfl⟩ := hl
      exact ⟨_, offT_run hn w _ _, .v _⟩
    · cases hl
  · obtain ⟨b, o, rfl, hc⟩ := hx.inv_ip
    split at hl
    · rename_i n hn
      simp at hl
      obtain ⟨_, rfl⟩ := hl
      exact ⟨_, offT_run hn w _ _, Rep.mkIp (hc.drop n)⟩
    · cases hl
  · cases hl

/-- A part of an aggregate. -/
def partA (P : Program) (t : TypeId) (ds : List D) (off : Nat) : Option (Prop × D) :=
  match aggT P t with
  | some true => match szT P t with
    | some n => some (off + n ≤ ds.length, .agg ((ds.drop off).take n))
    | none => none
  | some false => some (off < ds.length, ds.getD off default)
  | none => none

theorem partA_ok {t off : Nat} {ds : List D} {r : D} {p : Prop} {cs : List Value} (hl : partA P t ds off = some (p, r)) (hp : p) (hx : Reps G cs ds) :
    ∃ v, (part t cs.toArray off).run P w = .ok v w ∧ Rep G v r := by
  unfold partA at hl
  split at hl
  · rename_i ha
    split at hl
    · rename_i n hn
      simp at hl
      obtain ⟨hp', rfl⟩ := hl
      refine ⟨.agg ((cs.drop off).take n).toArray, ?_, Rep.mkAgg ((hx.drop off).take n)⟩
      simp [part, run_aggT ha, run_szT hn]
    · cases hl
  · rename_i ha
    simp at hl
    obtain ⟨hp', rfl⟩ := hl
    rw [← hp'] at hp
    have hd : ds[off]? = some (ds.getD off default) := by simp [List.getD, List.getElem?_eq_getElem hp]
    obtain ⟨c, hc, hrc⟩ := hx.get hd
    exact ⟨c, by simp [part, run_aggT ha, hc], by simpa [List.getD] using hrc⟩
  · cases hl

def fieldA (P : Program) (s f : Nat) : D → Option (Prop × D)
  | .agg ds => match ftoT P s f with
    | some (ty, off) => partA P ty ds off
    | none => none
  | _ => none

theorem fieldA_ok {s f : Nat} {d r : D} {p : Prop} {x : Value} (hl : fieldA P s f d = some (p, r)) (hp : p) (hx : Rep G x d) :
    ∃ v, (Instr.field s x f).run P w = .ok v w ∧ Rep G v r := by
  unfold fieldA at hl
  split at hl
  · obtain ⟨cs, rfl, hr⟩ := hx.inv_agg
    split at hl
    · rename_i ty off hd
      unfold ftoT fieldT at hd
      split at hd
      · rename_i fields hu
        obtain ⟨v, hv, hrv⟩ := partA_ok (w := w) hl hp hr
        cases hf : fields[f]? with
        | none => simp [hf] at hd
        | some d =>
          simp [hf] at hd
          obtain ⟨rfl, rfl⟩ := hd
          exact ⟨v, by simp [Instr.field, run_underlying hu, hf, asAgg, hv], hrv⟩
      · cases hd
    · cases hl
  · cases hl

/-- The elements of a slice that reads as a list. -/
def D.elems : D → Option (List (List D))
  | .list xs => some xs
  | .own _ _ xs => some xs
  | .nil => some []
  | _ => none

theorem Rep.inv_elems {x : Value} {d : D} {xs : List (List D)} (h : Rep G x d) (hd : d.elems = some xs) :
    ((∃ a, x = .slice a 0 0) ∧ xs = []) ∨ ∃ b o c sz, x = .slice (some ⟨b, o, none⟩) xs.length c ∧ xs.length ≤ c ∧ (∀ ds ∈ xs, ds.length = sz) ∧ CellsAt G b o xs.flatten := by
  cases d <;> simp [D.elems] at hd
  · subst hd
    exact (h.flat).inv_list
  · subst hd; exact h.inv_list
  · subst hd; exact (h.flat).inv_list

theorem flatten_drop_take {α : Type} {sz : Nat} : ∀ (xs : List (List α)) (i : Nat), (∀ ds ∈ xs, ds.length = sz) → i < xs.length → (xs.flatten.drop (i * sz)).take sz = xs.getD i []
  | [], i, _, hi => by simp at hi
  | x :: xs, 0, hl, _ => by
    have := hl x (by simp)
    simp [this]
  | x :: xs, i + 1, hl, hi => by
    have h0 := hl x (by simp)
    rw [List.flatten_cons, show (i + 1) * sz = x.length + i * sz by rw [h0, Nat.add_mul]; omega, ← List.drop_drop, List.drop_left]
    rw [flatten_drop_take xs i (fun ds hd => hl ds (by simp [hd])) (by simpa using hi)]
    simp [List.getD]

theorem CellsAt.elem {b o sz : Nat} {xs : List (List D)} (h : CellsAt G b o xs.flatten) (hl : ∀ ds ∈ xs, ds.length = sz) {i : Nat} (hi : i < xs.length) :
    CellsAt G b (o + i * sz) (xs.getD i []) := by
  rw [← flatten_drop_take xs i hl hi]
  exact (h.drop _).take _

def indexAddrA (P : Program) (t : TypeId) (x i : D) : Option (Prop × D) :=
  match i with
  | .v (.int _ n) =>
    match P.underlying t with
    | some (.slice e) =>
      match szT P e with
      | some sz =>
        match x with
        | .v (.slice (some ⟨b, o, none⟩) len _) => some (0 ≤ n ∧ n < len, .v (.pointer (some ⟨b, o + n.toNat * sz, none⟩)))
        | x => match x.elems with
          | some xs => some ((0 ≤ n ∧ n < xs.length) ∧ (xs.getD n.toNat []).length = sz, .ip (xs.getD n.toNat []))
          | none => none
      | none => none
    | some (.array len e) =>
      match szT P e with
      | some sz =>
        match x with
        | .v (.pointer (some ⟨b, o, none⟩)) => some (0 ≤ n ∧ n < len, .v (.pointer (some ⟨b, o + n.toNat * sz, none⟩)))
        | .ip ds => some (0 ≤ n ∧ n < len, .ip (ds.drop (n.toNat * sz)))
        | _ => none
      | none => none
    | _ => none
  | _ => none

theorem indexAddrA_ok {t : Nat} {d i r : D} {p : Prop} {x y : Value} (hl : indexAddrA P t d i = some (p, r)) (hp : p) (hx : Rep G x d) (hy : Rep G y i) :
    ∃ v, (Instr.indexAt t x y).run P w = .ok v w ∧ Rep G v r := by
  unfold indexAddrA at hl
  split at hl
  · rename_i k n
    cases hy.inv_v
    split at hl
    · rename_i e hu
      split at hl
      · rename_i sz hs
        split at hl
        · rename_i b o len c
          cases hx.inv_v
          simp at hl
          obtain ⟨hp', rfl⟩ := hl
          rw [← hp'] at hp
          refine ⟨_, ?_, .v _⟩
          simp [Instr.indexAt, asIntOf, run_underlying hu, run_szT hs, hp, Addr.add_lit]
        · split at hl
          · rename_i xs hxs
            simp at hl
            obtain ⟨hp', rfl⟩ := hl
            rw [← hp'] at hp
            obtain ⟨⟨h0, h1⟩, h2⟩ := hp
            rcases hx.inv_elems hxs with ⟨⟨ax, rfl⟩, rfl⟩ | ⟨b, o, c, sz', rfl, hc, hsz, hcells⟩
            · simp at h1; omega
            · have hi : n.toNat < xs.length := by omega
              have hsz' : sz' = sz := by
                rw [← h2]
                have hm : xs.getD n.toNat [] ∈ xs := by
                  simp [List.getD, List.getElem?_eq_getElem hi]
                have := hsz _ hm
                simp [List.getD] at this
                simp [this]
              subst hsz'
              refine ⟨.pointer (some ⟨b, o + n.toNat * sz', none⟩), ?_, ?_⟩
              · simp [Instr.indexAt, asIntOf, run_underlying hu, run_szT hs, h0, h1, Addr.add_lit]
              · have := Rep.mkIp (hcells.elem hsz hi)
                simpa [List.getD] using this
          · cases hl
      · cases hl
    · rename_i len e hu
      split at hl
      · rename_i sz hs
        split at hl
        · cases hx.inv_v
          simp at hl
          obtain ⟨hp', rfl⟩ := hl
          rw [← hp'] at hp
          refine ⟨_, ?_, .v _⟩
          simp [Instr.indexAt, asIntOf, run_underlying hu, run_szT hs, Instr.sureAddr, hp, Addr.add_lit]
        · obtain ⟨b, o, rfl, hc⟩ := hx.inv_ip
          simp at hl
          obtain ⟨hp', rfl⟩ := hl
          rw [← hp'] at hp
          refine ⟨_, ?_, Rep.mkIp (hc.drop (n.toNat * sz))⟩
          simp [Instr.indexAt, asIntOf, run_underlying hu, run_szT hs, Instr.sureAddr, hp, Addr.add_lit]
        · cases hl
      · cases hl
    · cases hl
  · cases hl

def indexA (P : Program) (t : TypeId) (x i : D) : Option (Prop × D) :=
  match i with
  | .v (.int _ n) =>
    match P.underlying t, x with
    | some .string, .v (.string s) => some (0 ≤ n ∧ n < s.size, .v (.int .u8 (s.data.toList.getD n.toNat 0).toNat))
    | _, _ => none
  | _ => none

theorem indexA_ok {t : Nat} {d i r : D} {p : Prop} {x y : Value} (hl : indexA P t d i = some (p, r)) (hp : p) (hx : Rep G x d) (hy : Rep G y i) :
    ∃ v, (Instr.index t x y).run P w = .ok v w ∧ Rep G v r := by
  unfold indexA at hl
  split at hl
  · rename_i k n
    cases hy.inv_v
    split at hl
    · rename_i s hu
      cases hx.inv_v
      simp at hl
      obtain ⟨hp', rfl⟩ := hl
      rw [← hp'] at hp
      obtain ⟨h0, h1⟩ := hp
      have hi : n.toNat < s.size := by omega
      refine ⟨_, ?_, .v _⟩
      have hi' : n.toNat < s.data.size := hi
      simp [Instr.index, asIntOf, run_underlying hu, h0, hi, List.getD, Array.getElem?_eq_getElem hi']
      rfl
    · cases hl
  · cases hl
/-! ### slices of slices and strings -/

/-- The two bounds of `x[lo:hi]`, of a thing of n elements. -/
def boundA (n : Nat) : Option D → Option D → Option (Prop × Nat × Nat)
  | none, none => some (True, 0, n)
  | some (.v (.int _ l)), none => some (0 ≤ l ∧ l ≤ n, l.toNat, n)
  | none, some (.v (.int _ h)) => some (0 ≤ h ∧ h ≤ n, 0, h.toNat)
  | some (.v (.int _ l)), some (.v (.int _ h)) => some (0 ≤ l ∧ l ≤ h ∧ h ≤ n, l.toNat, h.toNat)
  | _, _ => none

def sliceA (P : Program) (t : TypeId) (x : D) (lo hi mx : Option D) : Option (Prop × D) :=
  match P.underlying t with
  | some .string =>
    match x, mx with
    | .v (.string s), none => match boundA s.size lo hi with
      | some (p, l, h) => some (p, .v (.string (s.extract l h)))
      | none => none
    | _, _ => none
  | some (.slice e) =>
    match szT P e with
    | some sz =>
      match x, mx with
      | x, none => match x with
        | .v (.slice (some ⟨b, o, none⟩) len c) => match boundA len lo hi with
          | some (p, l, h) => some (p ∧ l < c ∧ len ≤ c, .v (.slice (some ⟨b, o + l * sz, none⟩) (h - l) (c - l)))
          | none => none
        | x => match x.elems with
          | some xs => match boundA xs.length lo hi with
            | some (p, l, h) => some (p ∧ (∀ ds ∈ xs, ds.length = sz), .list ((xs.take h).drop l))
            | none => none
          | none => none
      | x, some (.v (.int _ m)) => match x.elems, lo, hi with
        | some xs, none, some (.v (.int _ h)) => some (h = 0 ∧ m = 0, .nil)
        | _, _, _ => none
      | _, _ => none
    | none => none
  | _ => none

/-- What the bounds of the model come to. -/
def RepO (G : IG) : Option Value → Option D → Prop
  | none, none => True
  | some x, some d => Rep G x d
  | _, _ => False

theorem boundA_ok {n cap : Nat} (isS : Bool) (hn : n ≤ cap) {lo hi : Option D} {vlo vhi : Option Value} {p : Prop} {l h : Nat} (hl : boundA n lo hi = some (p, l, h)) (hp : p)
    (h1 : RepO G vlo lo) (h2 : RepO G vhi hi) : (Instr.sliceBounds isS n cap vlo vhi none).run P w = .ok (l, h, cap) w ∧ l ≤ h ∧ h ≤ n := by
  unfold boundA at hl
  split at hl
  · cases vlo <;> cases vhi <;> simp [RepO] at h1 h2
    simp at hl
    obtain ⟨hp', rfl, rfl⟩ := hl
    simp [Instr.sliceBounds]
  · rename_i k l'
    cases vlo <;> cases vhi <;> simp [RepO] at h1 h2
    cases h1.inv_v
    simp at hl
    obtain ⟨hp', rfl, rfl⟩ := hl
    rw [← hp'] at hp
    refine ⟨by simp [Instr.sliceBounds, Instr.sliceBound, asIntOf, hp], by omega, by omega⟩
  · rename_i k h'
    cases vlo <;> cases vhi <;> simp [RepO] at h1 h2
    cases h2.inv_v
    simp at hl
    obtain ⟨hp', rfl, rfl⟩ := hl
    rw [← hp'] at hp
    have hc : h' ≤ cap := by omega
    refine ⟨by simp [Instr.sliceBounds, Instr.sliceBound, asIntOf, hp, hc], by omega, by omega⟩
  · rename_i k l' k' h'
    cases vlo <;> cases vhi <;> simp [RepO] at h1 h2
    cases h1.inv_v
    cases h2.inv_v
    simp at hl
    obtain ⟨hp', rfl, rfl⟩ := hl
    rw [← hp'] at hp
    obtain ⟨ha, hb, hd⟩ := hp
    have hc : h' ≤ cap := by omega
    have h0 : 0 ≤ h' := by omega
    have hm : max h' 0 = h' := by omega
    refine ⟨by simp [Instr.sliceBounds, Instr.sliceBound, asIntOf, ha, hb, hc, h0, hm], by omega, by omega⟩
  · cases hl

theorem drop_take_flatten {α : Type} {sz : Nat} (xs : List (List α)) (hl : ∀ ds ∈ xs, ds.length = sz) : ∀ (l : Nat), l ≤ xs.length → (xs.drop l).flatten = xs.flatten.drop (l * sz) := by
  induction xs with
  | nil => simp
  | cons x xs ih =>
    intro l hl'
    cases l with
    | zero => simp
    | succ l =>
      have h0 := hl x (by simp)
      rw [List.drop_succ_cons, ih (fun ds hd => hl ds (by simp [hd])) l (by simpa using hl')]
      rw [List.flatten_cons, show (l + 1) * sz = x.length + l * sz by rw [h0, Nat.add_mul]; omega, ← List.drop_drop, List.drop_left]

theorem take_flatten_pre {α : Type} (xs : List (List α)) (h : Nat) : ∃ k, (xs.take h).flatten = xs.flatten.take k := by
  refine ⟨(xs.take h).flatten.length, ?_⟩
  conv => rhs; rw [← List.take_append_drop h xs, List.flatten_append]
  simp

theorem sliceA_ok {t : Nat} {d r : D} {lo hi mx : Option D} {p : Prop} {x : Value} {vlo vhi vmx : Option Value} (hl : sliceA P t d lo hi mx = some (p, r)) (hp : p) (hx : Rep G x d)
    (h1 : RepO G vlo lo) (h2 : RepO G vhi hi) (h3 : RepO G vmx mx) :
    ∃ v, (Instr.sliceAt t x vlo vhi vmx).run P w = .ok v w ∧ Rep G v r := by
  unfold sliceA at hl
  split at hl
  · rename_i hu
    split at hl
    · cases hx.inv_v
      cases vmx <;> simp [RepO] at h3
      split at hl
      · rename_i s p' l h hb
        simp at hl
        obtain ⟨hp', rfl⟩ := hl
        obtain ⟨hrun, _, _⟩ := boundA_ok (P := P) (w := w) false (Nat.le_refl _) hb (by rw [hp']; exact hp) h1 h2
        exact ⟨_, by simp [Instr.sliceAt, Instr.slice, run_underlying hu, hrun], .v _⟩
      · cases hl
    · cases hl
  · rename_i e hu
    split at hl
    · rename_i sz hs
      split at hl
      · cases vmx <;> simp [RepO] at h3
        split at hl
        · rename_i b o len c
          cases hx.inv_v
          split at hl
          · rename_i p' l h hb
            simp at hl
            obtain ⟨hp', rfl⟩ := hl
            rw [← hp'] at hp
            obtain ⟨hrun, _, _⟩ := boundA_ok (P := P) (w := w) true hp.2.2 hb hp.1 h1 h2
            have hne : c ≠ l := by omega
            exact ⟨_, by simp [Instr.sliceAt, Instr.slice, run_underlying hu, hrun, run_szT hs, hne, Addr.add_lit], .v _⟩
          · cases hl
        · split at hl
          · rename_i xs hxs
            split at hl
            · rename_i p' l h hb
              simp at hl
              obtain ⟨hp', rfl⟩ := hl
              rw [← hp'] at hp
              rcases hx.inv_elems hxs with ⟨⟨ax, rfl⟩, rfl⟩ | ⟨b, o, c, sz', rfl, hc, hsz, hcells⟩
              · obtain ⟨hrun, h4, h5⟩ := boundA_ok (P := P) (w := w) true (Nat.le_refl _) hb hp.1 h1 h2
                simp at h5
                subst h5
                obtain rfl : l = 0 := by omega
                simp at hrun
                refine ⟨.slice ax 0 0, ?_, by simpa using Rep.listE ax⟩
                cases ax <;> simp [Instr.sliceAt, Instr.slice, run_underlying hu, hrun, run_szT hs]
              · obtain ⟨hrun, h4, h5⟩ := boundA_ok (P := P) (w := w) true hc hb hp.1 h1 h2
                have hcl : CellsAt G b (o + l * sz) ((xs.take h).drop l).flatten := by
                  rw [drop_take_flatten (sz := sz) _ (fun ds hd => hp.2 ds (List.mem_of_mem_take hd)) l (by simp; omega)]
                  obtain ⟨k, hk⟩ := take_flatten_pre xs h
                  rw [hk]
                  exact (hcells.take k).drop _
                have hlen : ((xs.take h).drop l).length = h - l := by simp; omega
                have hsz2 : ∀ ds ∈ (xs.take h).drop l, ds.length = sz := fun ds hd => hp.2 ds (List.mem_of_mem_take (List.mem_of_mem_drop hd))
                by_cases hcl0 : c = l
                · have : h = l := by omega
                  subst this
                  subst hcl0
                  refine ⟨.slice (some ⟨b, o, none⟩) 0 0, by simp [Instr.sliceAt, Instr.slice, run_underlying hu, hrun, run_szT hs], ?_⟩
                  have : (xs.take c).drop c = [] := by simp
                  rw [this]
                  exact (Rep.nil1 ⟨b, o, none⟩).flat
                · refine ⟨.slice (some ⟨b, o + l * sz, none⟩) (h - l) (c - l), by simp [Instr.sliceAt, Instr.slice, run_underlying hu, hrun, run_szT hs, hcl0, Addr.add_lit], Rep.mkList hlen (by omega) hsz2 hcl⟩
            · cases hl
          · cases hl
      · split at hl
        · rename_i m xs lo' hi' k h hxs
          cases vlo <;> cases vhi <;> cases vmx <;> simp [RepO] at h1 h2 h3
          cases h2.inv_v
          cases h3.inv_v
          simp at hl
          obtain ⟨hp', rfl⟩ := hl
          rw [← hp'] at hp
          obtain ⟨rfl, rfl⟩ := hp
          rcases hx.inv_elems hxs with ⟨⟨ax, rfl⟩, rfl⟩ | ⟨b, o, c, sz', rfl, hc, hsz, hcells⟩
          · refine ⟨.slice ax 0 0, ?_, by cases ax; exact .nil0; exact .nil1 _⟩
            cases ax <;> simp [Instr.sliceAt, Instr.slice, Instr.sliceBounds, Instr.sliceBound, asIntOf, run_underlying hu, run_szT hs]
          · exact ⟨.slice (some ⟨b, o, none⟩) 0 0, by simp [Instr.sliceAt, Instr.slice, Instr.sliceBounds, Instr.sliceBound, asIntOf, run_underlying hu, run_szT hs], .nil1 _⟩
        · cases hl
      · cases hl
    · cases hl
  · cases hl
end
end Go.Sn
