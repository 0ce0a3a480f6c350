/-
  A program logic over the kit's `Calls`. Part 3: operators, conversions, what is built.
-/
import Derived.Test.YtobdagjdhgjplaaOps
import Derived.Laws.StructEq
import Derived.ChangeKeysEq
namespace Go.Sn
open Go Go.RowKit
set_option linter.unusedVariables false
set_option linter.unusedSimpArgs false

/-! ### operators -/

/-- Of two whole numbers of one kind. -/
def intA (op : BinOp) (k : IntKind) (a b : Int) : Option (Prop × D) :=
  match op with
  | .add => some (True, .v (.int k (k.wrap (a + b))))
  | .sub => some (True, .v (.int k (k.wrap (a - b))))
  | .mul => some (True, .v (.int k (k.wrap (a * b))))
  | .quo => some (b ≠ 0, .v (.int k (k.wrap (a.tdiv b))))
  | .rem => some (b ≠ 0, .v (.int k (a.tmod b)))
  | .and => some (True, .v (.int k (k.wrap ((BitVec.ofInt k.bits a &&& BitVec.ofInt k.bits b).toNat : Int))))
  | .or => some (True, .v (.int k (k.wrap ((BitVec.ofInt k.bits a ||| BitVec.ofInt k.bits b).toNat : Int))))
  | .xor => some (True, .v (.int k (k.wrap ((BitVec.ofInt k.bits a ^^^ BitVec.ofInt k.bits b).toNat : Int))))
  | .andNot => some (True, .v (.int k (k.wrap ((BitVec.ofInt k.bits a &&& ~~~ (BitVec.ofInt k.bits b)).toNat : Int))))
  | .eql => some (True, .v (.bool (decide (a = b))))
  | .neq => some (True, .v (.bool (!decide (a = b))))
  | .lss => some (True, .v (.bool (decide (a < b))))
  | .leq => some (True, .v (.bool (decide (a ≤ b))))
  | .gtr => some (True, .v (.bool (decide (b < a))))
  | .geq => some (True, .v (.bool (decide (b ≤ a))))
  | _ => none

def shiftA (op : BinOp) (k : IntKind) (a b : Int) : Option (Prop × D) :=
  match op with
  | .shl => some (0 ≤ b, .v (.int k (k.wrap (a * 2 ^ (min b.toNat k.bits)))))
  | .shr => some (0 ≤ b, .v (.int k (a.fdiv (2 ^ (min b.toNat k.bits)))))
  | _ => none

def strA (op : BinOp) (a b : ByteArray) : Option (Prop × D) :=
  match op with
  | .add => some (a.size + b.size ≤ maxLen, .v (.string (a ++ b)))
  | .eql => some (True, .v (.bool (decide (a.data.toList = b.data.toList))))
  | .neq => some (True, .v (.bool (!decide (a.data.toList = b.data.toList))))
  | _ => none

/-- The kinds of cells of a type whose values are compared cell by cell. -/
def scalT (P : Program) (t : TypeId) : Option TypeDesc :=
  match P.underlying t with
  | some (.int k) => some (.int k)
  | some .bool => some .bool
  | some .string => some .string
  | _ => none

def eqFieldsT (P : Program) : List Field → Nat → Option (List TypeDesc)
  | [], _ => some []
  | f :: fs, i => if f.name == "_" || f.offset != i || szT P f.type != some 1 then none else
    match scalT P f.type, eqFieldsT P fs (i + 1) with
    | some u, some us => some (u :: us)
    | _, _ => none

def eqShape (P : Program) (t : TypeId) : Option (List TypeDesc) :=
  if P.eqGuardType P.depth t then none else
  match P.underlying t with
  | some (.struct fields) => if P.stoodInHeld t then none else eqFieldsT P fields.toList 0
  | some (.array len e) => if szT P e != some 1 then none else
    match scalT P e with
    | some u => some (List.replicate len u)
    | none => none
  | _ => none

def eqCell : TypeDesc → D → D → Option Bool
  | .int _, .v (.int k a), .v (.int k' b) => if k = k' then some (decide (a = b)) else none
  | .bool, .v (.bool a), .v (.bool b) => some (a == b)
  | .string, .v (.string a), .v (.string b) => some (decide (a.data.toList = b.data.toList))
  | _, _, _ => none

def eqCells : List TypeDesc → List D → List D → Option Bool
  | [], [], [] => some true
  | u :: us, d :: ds, e :: es =>
    match eqCell u d e, eqCells us ds es with
    | some a, some b => some (a && b)
    | _, _ => none
  | _, _, _ => none

def binA (P : Program) (op : BinOp) (t : TypeId) (x y : D) : Option (Prop × D) :=
  match x, y with
  | .v (.int k a), .v (.int k' b) =>
    match op with
    | .shl => shiftA .shl k a b
    | .shr => shiftA .shr k a b
    | op => if k = k' then intA op k a b else none
  | .v (.string a), .v (.string b) => strA op a b
  | .v (.bool a), .v (.bool b) => match op, P.underlying t with
    | .eql, some .bool => some (True, .v (.bool (a == b)))
    | .neq, some .bool => some (True, .v (.bool (!(a == b))))
    | _, _ => none
  | .v (.pointer none), .v (.pointer b) => match op, P.underlying t with
    | .eql, some (.pointer _) => some (True, .v (.bool b.isNone))
    | .neq, some (.pointer _) => some (True, .v (.bool b.isSome))
    | _, _ => none
  | .v (.pointer (some a)), .v (.pointer none) => match op, P.underlying t with
    | .eql, some (.pointer _) => some (True, .v (.bool false))
    | .neq, some (.pointer _) => some (True, .v (.bool true))
    | _, _ => none
  | .ip _, .v (.pointer none) => match op, P.underlying t with
    | .eql, some (.pointer _) => some (True, .v (.bool false))
    | .neq, some (.pointer _) => some (True, .v (.bool true))
    | _, _ => none
  | .agg ds, .agg es => match op, eqShape P t with
    | .eql, some us => match eqCells us ds es with
      | some b => some (True, .v (.bool b))
      | none => none
    | .neq, some us => match eqCells us ds es with
      | some b => some (True, .v (.bool (!b)))
      | none => none
    | _, _ => none
  | _, _ => none

section
variable {P : Program} {W : World} {G : IG} {H : Heap} {w : World}

theorem intA_ok {op : BinOp} {k : IntKind} {a b : Int} {p : Prop} {r : D} (hl : intA op k a b = some (p, r)) (hp : p) (t : Nat)
    (h1 : op ≠ .shl) (h2 : op ≠ .shr) : ∃ v, (binOp op t (.int k a) (.int k b)).run P w = .ok v w ∧ Rep G v r := by
  unfold intA at hl
  cases op <;> simp at hl h1 h2 <;> obtain ⟨hp', rfl⟩ := hl
  all_goals refine ⟨_, ?_, .v _⟩
  all_goals first
    | (simp [binOp, Op.intArith]; done)
    | (simp [binOp, Op.intCmp]; done)
    | (simp [binOp, Op.intBits]; done)
    | (rw [← hp'] at hp; simp [binOp, Op.intDiv, hp]; done)
    | (simp [binOp, Op.intCmp, Int.beq_eq_decide_eq]; done)
    | skip
  all_goals (simp only [binOp, Op.intCmp]; simp; first | rfl | (by_cases h : a = b <;> simp [h]))

theorem shiftA_ok {op : BinOp} {k k' : IntKind} {a b : Int} {p : Prop} {r : D} (hl : shiftA op k a b = some (p, r)) (hp : p) (t : Nat) :
    ∃ v, (binOp op t (.int k a) (.int k' b)).run P w = .ok v w ∧ Rep G v r := by
  unfold shiftA at hl
  cases op <;> simp at hl <;> obtain ⟨hp', rfl⟩ := hl
  all_goals refine ⟨_, ?_, .v _⟩
  all_goals
    rw [← hp'] at hp
    simp [binOp, Op.shift, Int.not_lt.2 hp]

theorem beq_dec {α : Type} [BEq α] [LawfulBEq α] [DecidableEq α] (a b : α) : (a == b) = decide (a = b) := by by_cases h : a = b <;> simp [h]

theorem bytes_toList (a : ByteArray) : a.toList = a.data.toList := ByteArray.toList_eq a

theorem strA_ok {op : BinOp} {a b : ByteArray} {p : Prop} {r : D} (hl : strA op a b = some (p, r)) (hp : p) (t : Nat) :
    ∃ v, (binOp op t (.string a) (.string b)).run P w = .ok v w ∧ Rep G v r := by
  unfold strA at hl
  cases op <;> simp at hl <;> obtain ⟨hp', rfl⟩ := hl
  all_goals refine ⟨_, ?_, .v _⟩
  · rw [← hp'] at hp
    have : ((a.size : Int) + (b.size : Int)) ≤ 9223372036854775807 := by
      simp only [maxLen] at hp
      omega
    simp [binOp, Op.stringOp, IntKind.max, IntKind.signed, IntKind.bits, this]
  · simp only [binOp, Op.stringOp, bytes_toList]; simp [Bool.beq_eq_decide_eq, beq_dec]
  · simp only [binOp, Op.stringOp, bytes_toList]; simp [beq_dec]

theorem scalT_eq {t : Nat} {u : TypeDesc} (h : scalT P t = some u) : P.underlying t = some u ∧ aggT P t = some false := by
  unfold scalT at h
  unfold aggT
  split at h
  · rename_i k hu; cases h; exact ⟨hu, by simp [hu]⟩
  · rename_i hu; cases h; exact ⟨hu, by simp [hu]⟩
  · rename_i hu; cases h; exact ⟨hu, by simp [hu]⟩
  · cases h

theorem eqCell_ok {t : Nat} {u : TypeDesc} (hs : scalT P t = some u) {d e : D} {b : Bool} (h : eqCell u d e = some b) {x y : Value} (hx : Rep G x d) (hy : Rep G y e) (n : Nat) :
    (Op.equalIn (n + 1) t x y).run P w = .ok b w := by
  have hu := (scalT_eq hs).1
  unfold eqCell at h
  split at h
  · cases hx.inv_v; cases hy.inv_v
    rename_i k0 k a k' a'
    by_cases hk : k = k'
    · subst hk
      simp at h
      rw [run_equalIn_int w n t k k0 a a' hu]
      simp [← h, beq_dec]
    · simp [hk] at h
  · cases hx.inv_v; cases hy.inv_v
    simp at h
    rw [run_equalIn_bool' w n t _ _ hu]
    simp [← h]
  · cases hx.inv_v; cases hy.inv_v
    simp only [Option.some.injEq] at h
    rw [run_equalIn_string w n t _ _ hu]
    rw [← h, bytes_toList, bytes_toList, beq_dec]
  · cases h

theorem drop_head {α : Type} {l : List α} {i : Nat} {a : α} {as : List α} (h : l.drop i = a :: as) : l[i]? = some a := by
  have := List.getElem?_drop (xs := l) (i := i) (j := 0)
  rw [h] at this
  simpa using this.symm

theorem eqFields_ok (n : Nat) {cs cs' : List Value} {ds es : List D} (hx : Reps G cs ds) (hy : Reps G cs' es) :
    ∀ (fs : List Field) (i : Nat) (us : List TypeDesc) (b : Bool), eqFieldsT P fs i = some us → eqCells us (ds.drop i) (es.drop i) = some b →
      (Op.eqFields (n + 1) cs.toArray cs'.toArray fs).run P w = .ok b w
  | [], i, us, b, hf, he => by
    simp [eqFieldsT] at hf
    subst hf
    unfold eqCells at he
    split at he
    · cases he; simp [Op.eqFields]
    · simp_all
    · cases he
  | f :: fs, i, us, b, hf, he => by
    unfold eqFieldsT at hf
    split at hf
    · cases hf
    · rename_i hc
      simp at hc
      obtain ⟨⟨hname, hoff⟩, hsz⟩ := hc
      split at hf
      · rename_i u us' hu hus
        cases hf
        unfold eqCells at he
        split at he
        · simp_all
        · rename_i u0 us0 d0 ds0 e0 es0 h1 h2 h3
          cases h1
          split at he
          · rename_i a b' ha hb'
            simp at he
            have hd : ds[i]? = some d0 := drop_head h2
            have he' : es[i]? = some e0 := drop_head h3
            obtain ⟨c, hc, hrc⟩ := hx.get hd
            obtain ⟨c', hc', hrc'⟩ := hy.get he'
            have ih := eqFields_ok n hx hy fs (i + 1) us' b' hus (by
              rw [← List.drop_drop, h2, ← List.drop_drop, h3]; simpa using hb')
            have hp1 : (part f.type cs.toArray f.offset).run P w = .ok c w := by simp [part, run_aggT (scalT_eq hu).2, hoff, hc]
            have hp2 : (part f.type cs'.toArray f.offset).run P w = .ok c' w := by simp [part, run_aggT (scalT_eq hu).2, hoff, hc']
            have hq := eqCell_ok (w := w) hu ha hrc hrc' n
            rw [Op.eqFields]
            simp only [ne_eq, hname, not_false_eq_true, if_true, Sem.run_bind, hp1, hp2, hq, Result.andThen_ok]
            subst he
            cases a
            · simp
            · simpa using ih
          · cases he
        · cases he
      · cases hf

theorem eqItems_ok (n : Nat) {e : Nat} {u : TypeDesc} (hu : scalT P e = some u) (hsz : szT P e = some 1) {cs cs' : List Value} {ds es : List D} (hx : Reps G cs ds) (hy : Reps G cs' es) :
    ∀ (m i : Nat) (b : Bool), eqCells (List.replicate m u) (ds.drop i) (es.drop i) = some b →
      (Op.eqItems (n + 1) e 1 cs.toArray cs'.toArray (List.range' i m)).run P w = .ok b w
  | 0, i, b, he => by
    simp only [List.replicate_zero] at he
    unfold eqCells at he
    split at he
    · cases he; simp [Op.eqItems]
    · simp_all
    · cases he
  | m + 1, i, b, he => by
    rw [List.replicate_succ] at he
    unfold eqCells at he
    split at he
    · simp_all
    · rename_i u0 us0 d0 ds0 e0 es0 h1 h2 h3
      cases h1
      split at he
      · rename_i a b' ha hb'
        simp at he
        have hd : ds[i]? = some d0 := drop_head h2
        have he' : es[i]? = some e0 := drop_head h3
        obtain ⟨c, hc, hrc⟩ := hx.get hd
        obtain ⟨c', hc', hrc'⟩ := hy.get he'
        have ih := eqItems_ok n hu hsz hx hy m (i + 1) b' (by
              rw [← List.drop_drop, h2, ← List.drop_drop, h3]; simpa using hb')
        have hp1 : (part e cs.toArray (i * 1)).run P w = .ok c w := by simp [part, run_aggT (scalT_eq hu).2, hc]
        have hp2 : (part e cs'.toArray (i * 1)).run P w = .ok c' w := by simp [part, run_aggT (scalT_eq hu).2, hc']
        have hq := eqCell_ok (w := w) hu ha hrc hrc' n
        rw [List.range'_succ, Op.eqItems]
        simp only [Sem.run_bind, hp1, hp2, hq, Result.andThen_ok]
        subst he
        cases a
        · simp
        · simpa using ih
      · cases he
    · cases he

theorem eqShape_ok {t : Nat} {us : List TypeDesc} (hs : eqShape P t = some us) {ds es : List D} {b : Bool} (he : eqCells us ds es = some b) {cs cs' : List Value} (hx : Reps G cs ds) (hy : Reps G cs' es) :
    P.eqGuardType P.depth t = false ∧ (Op.equalIn 10000 t (.agg cs.toArray) (.agg cs'.toArray)).run P w = .ok b w := by
  unfold eqShape at hs
  split at hs
  · cases hs
  · rename_i hgd
    refine ⟨by simpa using hgd, ?_⟩
    split at hs
    · rename_i fields hu
      split at hs
      · cases hs
      · rename_i hst
        have hf : P.fieldsOf t = fields := by simp [Program.fieldsOf, hu]
        rw [show (10000 : Nat) = 9999 + 1 from rfl, run_equalIn_struct (P := P) w 9999 t _ _ (by rw [hf]; exact hu) (by simpa using hst), hf]
        exact eqFields_ok 9998 hx hy _ 0 us b hs (by simpa using he)
    · rename_i len e hu
      split at hs
      · cases hs
      · rename_i hsz
        have hsz' : szT P e = some 1 := by simpa using hsz
        split at hs
        · rename_i u hsc
          cases hs
          have hi : ∃ i, P.info? e = some i := by
            unfold szT at hsz'
            cases hi : P.info? e with
            | none => simp [hi] at hsz'
            | some i => exact ⟨i, rfl⟩
          obtain ⟨i, hi⟩ := hi
          have hc : P.cellsOf e = 1 := by
            have := hsz'
            simp [szT, hi] at this
            simp [Program.cellsOf, hi, this]
          rw [show (10000 : Nat) = 9999 + 1 from rfl, run_equalIn_array w 9999 _ _ hu hi, hc, List.range_eq_range']
          exact eqItems_ok 9998 hsc hsz' hx hy len 0 b (by simpa using he)
        · cases hs
    · cases hs

theorem run_eqGuard_v (op : BinOp) (t : TypeId) (x y : Operand) {a b : Value} (h : ∀ cs, a ≠ .agg cs) (h' : a ≠ .nilIface) : (eqGuard op t x y a b).run P w = .ok () w := by
  unfold eqGuard
  cases op <;> simp <;> (cases a <;> simp_all)

theorem run_equalIn_ptr1 (n : Nat) {t e : Nat} (hu : P.underlying t = some (.pointer e)) (b : Option Addr) :
    (Op.equalIn (n + 1) t (.pointer none) (.pointer b)).run P w = .ok b.isNone w := by
  simp only [Op.equalIn, Sem.run_bind, run_underlying hu, Result.andThen_ok, Sem.run_pure]
theorem run_equalIn_ptr2 (n : Nat) {t e : Nat} (hu : P.underlying t = some (.pointer e)) (a : Addr) :
    (Op.equalIn (n + 1) t (.pointer (some a)) (.pointer none)).run P w = .ok false w := by
  simp only [Op.equalIn, Sem.run_bind, run_underlying hu, Result.andThen_ok, Sem.run_pure]

theorem run_eql_of {t : Nat} {x y : Value} {b : Bool} (h : (Op.equalIn 10000 t x y).run P w = .ok b w)
    (hb : binOp .eql t x y = (do pure (.bool (← Op.equal t x y)))) : (binOp .eql t x y).run P w = .ok (.bool b) w := by
  rw [hb, Sem.run_bind, show Op.equal t x y = Op.equalIn 10000 t x y from rfl, h]; rfl
theorem run_neq_of {t : Nat} {x y : Value} {b : Bool} (h : (Op.equalIn 10000 t x y).run P w = .ok b w)
    (hb : binOp .neq t x y = (do pure (.bool (!(← Op.equal t x y))))) : (binOp .neq t x y).run P w = .ok (.bool (!b)) w := by
  rw [hb, Sem.run_bind, show Op.equal t x y = Op.equalIn 10000 t x y from rfl, h]; rfl

theorem binA_ok {op : BinOp} {t : Nat} {d e : D} {p : Prop} {r : D} (hl : binA P op t d e = some (p, r)) (hp : p) {x y : Value} (hx : Rep G x d) (hy : Rep G y e) (ox oy : Operand) :
    ∃ v, (do eqGuard op t ox oy x y; binOp op t x y : Sem Value).run P w = .ok v w ∧ Rep G v r := by
  unfold binA at hl
  split at hl
  · cases hx.inv_v; cases hy.inv_v
    simp only [Sem.run_bind]
    rw [run_eqGuard_v op t ox oy (by simp) (by simp)]
    simp only [Result.andThen_ok]
    split at hl
    · exact shiftA_ok hl hp t
    · exact shiftA_ok hl hp t
    · split at hl
      · rename_i k a k' b _ h1 h2 hk
        subst hk
        exact intA_ok hl hp t (by simpa using h1) (by simpa using h2)
      · cases hl
  · cases hx.inv_v; cases hy.inv_v
    simp only [Sem.run_bind]
    rw [run_eqGuard_v op t ox oy (by simp) (by simp)]
    simp only [Result.andThen_ok]
    exact strA_ok hl hp t
  · cases hx.inv_v; cases hy.inv_v
    simp only [Sem.run_bind]
    rw [run_eqGuard_v op t ox oy (by simp) (by simp)]
    simp only [Result.andThen_ok]
    split at hl
    · rename_i hu
      simp at hl
      obtain ⟨_, rfl⟩ := hl
      exact ⟨_, run_eql_of (run_equalIn_bool' w 9999 t _ _ hu) rfl, .v _⟩
    · rename_i hu
      simp at hl
      obtain ⟨_, rfl⟩ := hl
      exact ⟨_, run_neq_of (run_equalIn_bool' w 9999 t _ _ hu) rfl, .v _⟩
    · cases hl
  · cases hx.inv_v; cases hy.inv_v
    simp only [Sem.run_bind]
    rw [run_eqGuard_v op t ox oy (by simp) (by simp)]
    simp only [Result.andThen_ok]
    split at hl
    · rename_i hu
      simp at hl
      obtain ⟨_, rfl⟩ := hl
      exact ⟨_, run_eql_of (run_equalIn_ptr1 9999 hu _) rfl, .v _⟩
    · rename_i hu
      simp at hl
      obtain ⟨_, rfl⟩ := hl
      exact ⟨_, run_neq_of (run_equalIn_ptr1 9999 hu _) rfl, by simpa using Rep.v (G := G) _⟩
    · cases hl
  · cases hx.inv_v; cases hy.inv_v
    simp only [Sem.run_bind]
    rw [run_eqGuard_v op t ox oy (by simp) (by simp)]
    simp only [Result.andThen_ok]
    split at hl
    · rename_i hu
      simp at hl
      obtain ⟨_, rfl⟩ := hl
      exact ⟨_, run_eql_of (run_equalIn_ptr2 9999 hu _) rfl, .v _⟩
    · rename_i hu
      simp at hl
      obtain ⟨_, rfl⟩ := hl
      exact ⟨_, run_neq_of (run_equalIn_ptr2 9999 hu _) rfl, .v _⟩
    · cases hl
  · cases hy.inv_v
    obtain ⟨b, o, rfl, _⟩ := hx.inv_ip
    simp only [Sem.run_bind]
    rw [run_eqGuard_v op t ox oy (by simp) (by simp)]
    simp only [Result.andThen_ok]
    split at hl
    · rename_i hu
      simp at hl
      obtain ⟨_, rfl⟩ := hl
      exact ⟨_, run_eql_of (run_equalIn_ptr2 9999 hu _) rfl, .v _⟩
    · rename_i hu
      simp at hl
      obtain ⟨_, rfl⟩ := hl
      exact ⟨_, run_neq_of (run_equalIn_ptr2 9999 hu _) rfl, .v _⟩
    · cases hl
  · obtain ⟨cs, rfl, hr⟩ := hx.inv_agg
    obtain ⟨cs', rfl, hr'⟩ := hy.inv_agg
    split at hl
    · rename_i us hs
      split at hl
      · rename_i b he
        simp at hl
        obtain ⟨_, rfl⟩ := hl
        obtain ⟨hg, hrun⟩ := eqShape_ok (w := w) hs he hr hr'
        exact ⟨_, by simp only [Sem.run_bind]; rw [run_eqGuard_agg w _ t ox oy _ _ hg, Result.andThen_ok, run_eql_struct, hrun]; rfl, .v _⟩
      · cases hl
    · rename_i us hs
      split at hl
      · rename_i b he
        simp at hl
        obtain ⟨_, rfl⟩ := hl
        obtain ⟨hg, hrun⟩ := eqShape_ok (w := w) hs he hr hr'
        exact ⟨_, by simp only [Sem.run_bind]; rw [run_eqGuard_agg w _ t ox oy _ _ hg, Result.andThen_ok, run_neq_struct, hrun]; rfl, .v _⟩
      · cases hl
    · cases hl
  · cases hl
end
end Go.Sn
