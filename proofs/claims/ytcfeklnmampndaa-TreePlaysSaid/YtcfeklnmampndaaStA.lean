/-
  Programs that run: the plain model.
-/
import Derived.Test.YtcfeklnmampndaaPgAC
import Derived.Test.YtcfeklnmampndaaEvD
set_option linter.unusedSimpArgs false
set_option linter.unusedVariables false
namespace Go.Proofs.Ytcfeklnmampndaa
open Go Go.Sn Go.RowKit

/-- Where a thread is. -/
structure Td where
  pc : Int
  fu : Int
  r0 : Int
  r1 : Int
deriving DecidableEq, Inhabited
/-- A program that runs. -/
structure St where
  p : Pg
  ts : List Td
  v0 : Int
  v1 : Int
  v2 : Int
  v3 : Int
  h0 : Int
  h1 : Int
deriving DecidableEq, Inhabited

def tdC (t : Td) : List D := [.v (.int .i64 t.pc), .v (.int .i64 t.fu), .v (.int .i64 t.r0), .v (.int .i64 t.r1)]
def tdsC (l : List Td) : List (List D) := l.map tdC
/-- The cells of a state, `d` the row of its threads. -/
def stD (s : St) (d : D) : List D := [.v (.int .i64 s.p.vs), .v (.int .i64 s.p.ms), .list (thsC s.p.th), d, .v (.int .i64 s.v0), .v (.int .i64 s.v1), .v (.int .i64 s.v2), .v (.int .i64 s.v3), .v (.int .i64 s.h0), .v (.int .i64 s.h1)]
def stC (s : St) : List D := stD s (.list (tdsC s.ts))

@[go_sem] theorem tdsC_length (l : List Td) : (tdsC l).length = l.length := by simp [tdsC]
@[go_sem] theorem tdsC_get (l : List Td) (n : Nat) (h : n < l.length) : (tdsC l).getD n [] = tdC (l.getD n default) := by simp [tdsC, List.getD, h]
@[go_sem] theorem tdC_len (e : Td) : (tdC e).length = 4 := rfl
@[go_sem] theorem tdC_drop0 (e : Td) : (tdC e).drop 0 = tdC e := rfl
@[go_sem] theorem tdC_get0 (e : Td) : (tdC e).getD 0 default = .v (.int .i64 e.pc) := rfl
@[go_sem] theorem tdC_get1 (e : Td) : (tdC e).getD 1 default = .v (.int .i64 e.fu) := rfl
@[go_sem] theorem tdC_get2 (e : Td) : (tdC e).getD 2 default = .v (.int .i64 e.r0) := rfl
@[go_sem] theorem tdC_get3 (e : Td) : (tdC e).getD 3 default = .v (.int .i64 e.r1) := rfl
@[go_sem] theorem tdC_drop1 (e : Td) : (tdC e).drop 1 = [.v (.int .i64 e.fu), .v (.int .i64 e.r0), .v (.int .i64 e.r1)] := rfl
@[go_sem] theorem tdC_drop2 (e : Td) : (tdC e).drop 2 = [.v (.int .i64 e.r0), .v (.int .i64 e.r1)] := rfl
@[go_sem] theorem tdC_drop3 (e : Td) : (tdC e).drop 3 = [.v (.int .i64 e.r1)] := rfl
@[go_sem] theorem tdC_take4 (e : Td) : (tdC e).take 4 = tdC e := rfl
@[go_sem] theorem tdC_one (e : Td) : (tdC e).all D.one = true := rfl
@[go_sem] theorem tdC_flat (e : Td) : (tdC e).map D.flat = tdC e := rfl
theorem tdsC_all (l : List Td) : ∀ ds ∈ tdsC l, ds.length = 4 := by intro ds h; simp only [tdsC, List.mem_map] at h; obtain ⟨n, _, rfl⟩ := h; rfl
theorem tdsC_snoc (l : List Td) (t : Td) : tdsC (l ++ [t]) = tdsC l ++ [tdC t] := by simp [tdsC]

def Td.reg (t : Td) (r : Int) : Int := if r = 0 then t.r0 else t.r1
def Td.setReg (t : Td) (r n : Int) : Td := if r = 0 then { t with r0 := n } else { t with r1 := n }
def St.var (s : St) (x : Int) : Int := if x = 0 then s.v0 else if x = 1 then s.v1 else if x = 2 then s.v2 else s.v3
def St.setVar (s : St) (x n : Int) : St := if x = 0 then { s with v0 := n } else if x = 1 then { s with v1 := n } else if x = 2 then { s with v2 := n } else { s with v3 := n }
def St.hol (s : St) (x : Int) : Int := if x = 0 then s.h0 else s.h1
def St.setHol (s : St) (x n : Int) : St := if x = 0 then { s with h0 := n } else { s with h1 := n }

def St.td (s : St) (t : Int) : Td := s.ts.getD t.toNat default
def St.code (s : St) (t : Int) : List In := s.p.th.getD t.toNat []
/-- Is there such a thread? -/
def St.is (s : St) (t : Int) : Bool := decide (0 ≤ t ∧ t < (s.ts.length : Int))
/-- Has it something to do? -/
def St.has (s : St) (t : Int) : Bool := s.is t && !(decide ((s.td t).fu = 0) || decide (((s.code t).length : Int) ≤ (s.td t).pc))
def in0 : In := ⟨0, 0, 0, 0⟩
/-- Its next instruction. -/
def St.ins (s : St) (t : Int) : In := if s.has t then (s.code t).getD (s.td t).pc.toNat default else in0
/-- The event of an instruction. -/
def St.evI (s : St) (t : Int) (i : In) : Ev :=
  if i.kd = 1 then ⟨t, 2, i.x, false⟩ else if i.kd = 2 then ⟨t, 3, i.x, false⟩ else if i.kd = 5 then ⟨t, 4, i.x, false⟩ else
  if i.kd = 6 then (if s.hol i.x = t then ⟨t, 5, i.x, false⟩ else ⟨t, 1, 0, true⟩) else if i.kd = 8 then ⟨t, 1, 0, decide ((s.td t).reg i.r = 0)⟩ else ⟨t, 1, 0, false⟩
/-- What a thread would do next. -/
def St.nxt (s : St) (t : Int) : Ev := if s.has t then s.evI t (s.ins t) else ev0
/-- May it do it now? -/
def St.may (s : St) (t : Int) : Bool := s.has t && (!decide ((s.nxt t).kd = 4) || decide (s.hol (s.nxt t).ob < 0))
/-- Who may. -/
def St.all (s : St) : List Int := ((List.range s.ts.length).filter fun (k : Nat) => s.may (k : Int)).map fun (k : Nat) => (k : Int)
def St.setTd (s : St) (t : Int) (x : Td) : St := { s with ts := s.ts.set t.toNat x }
/-- The thread with its next instruction behind it. -/
def St.tick (s : St) (t : Int) : St := s.setTd t { s.td t with pc := (s.td t).pc + 1, fu := (s.td t).fu - 1 }
/-- What an instruction does. -/
def St.deed (s : St) (t : Int) (i : In) : St :=
  if i.kd = 1 then s.setTd t ((s.td t).setReg i.r (s.var i.x)) else if i.kd = 2 then s.setVar i.x ((s.td t).reg i.r) else
  if i.kd = 3 then s.setTd t ((s.td t).setReg i.r i.n) else if i.kd = 4 then s.setTd t ((s.td t).setReg i.r (IntKind.i64.wrap ((s.td t).reg i.r + i.n))) else
  if i.kd = 5 then s.setHol i.x t else if i.kd = 6 then (if s.hol i.x = t then s.setHol i.x (-1) else s) else
  if i.kd = 7 then (if (s.td t).reg i.r = 0 then s else s.setTd t { s.td t with pc := i.x }) else s
/-- The error of a step. -/
def St.err (s : St) (t : Int) : Int := if s.is t then (if s.has t then (if s.may t then 0 else 9) else 6) else 2
def St.stE (s : St) (t : Int) : Ev := if s.err t = 0 then s.nxt t else ev0
/-- The state behind a step. -/
def St.stS (s : St) (t : Int) : St := if s.err t = 0 then (s.tick t).deed t (s.ins t) else s

/-- A state that can be. -/
structure OkSt (s : St) : Prop where
  right : rightP s.p = true
  len : s.ts.length = s.p.th.length
  td : ∀ k, k < s.ts.length → (0 ≤ (s.ts.getD k default).fu ∧ (s.ts.getD k default).fu ≤ 8) ∧ 0 ≤ (s.ts.getD k default).pc ∧ (s.ts.getD k default).pc ≤ 8

theorem right_ok {p : Pg} (h : rightP p = true) : okVM p.vs p.ms ∧ (1 ≤ p.th.length ∧ p.th.length ≤ 4) ∧ p.th.all (thrR p.vs p.ms) = true := by
  unfold rightP at h
  rw [Bool.and_eq_true, decide_eq_true_eq] at h
  exact ⟨⟨h.1.1, h.1.2.1⟩, h.1.2.2, h.2⟩
theorem thrR_ok {v m : Int} {c : List In} (h : thrR v m c = true) : c.length ≤ 8 ∧ c.all (insR v m (c.length : Int)) = true := by
  unfold thrR at h
  rw [Bool.and_eq_true, decide_eq_true_eq] at h
  exact h
/-- What may stand in a program. -/
structure OkI (s : St) (n : Int) (i : In) : Prop where
  kd : 1 ≤ i.kd ∧ i.kd ≤ 8
  r : i.r = 0 ∨ i.r = 1
  x0 : 0 ≤ i.x
  var : i.kd = 1 ∨ i.kd = 2 → i.x < 4
  mu : i.kd = 5 ∨ i.kd = 6 → i.x = 0 ∨ i.x = 1
  jump : i.kd = 7 → i.x ≤ n
theorem okI_of {s : St} {c : List In} {i : In} (h : okVM s.p.vs s.p.ms) (hi : insR s.p.vs s.p.ms (c.length : Int) i = true) : OkI s (c.length : Int) i := by
  obtain ⟨⟨v0, v1⟩, m0, m1⟩ := h
  unfold insR at hi
  rw [decide_eq_true_eq] at hi
  obtain ⟨k1, k2, r1, r2, x0, a, b, c', d, e, f⟩ := hi
  exact ⟨⟨k1, k2⟩, by omega, x0, fun h => by have := a h; omega, fun h => by have := (b h).1; omega, c'⟩
theorem OkSt.code_len {s : St} (h : OkSt s) (t : Int) : (s.code t).length ≤ 8 := by
  obtain ⟨hv, hl, hall⟩ := right_ok h.right
  unfold St.code
  by_cases hk : t.toNat < s.p.th.length
  · have : s.p.th.getD t.toNat [] ∈ s.p.th := by simp [List.getD_eq_getElem?_getD, List.getElem?_eq_getElem hk]
    exact (thrR_ok (List.all_eq_true.1 hall _ this)).1
  · simp [List.getD_eq_getElem?_getD, List.getElem?_eq_none (Nat.not_lt.1 hk)]
theorem OkSt.ins {s : St} (h : OkSt s) {t : Int} (ht : s.has t = true) : OkI s ((s.code t).length : Int) (s.ins t) ∧ (s.td t).pc.toNat < (s.code t).length ∧ 0 ≤ (s.td t).pc := by
  obtain ⟨hv, hl, hall⟩ := right_ok h.right
  have ht' := ht
  unfold St.has St.is at ht'
  rw [Bool.and_eq_true, decide_eq_true_eq] at ht'
  obtain ⟨⟨h0, h1⟩, h2⟩ := ht'
  simp only [Bool.not_eq_true', Bool.or_eq_false_iff, decide_eq_false_iff_not] at h2
  have hk : t.toNat < s.ts.length := by omega
  have htd := (h.td t.toNat hk).2
  have hpc : 0 ≤ (s.td t).pc := htd.1
  have hlt : (s.td t).pc.toNat < (s.code t).length := by omega
  have hk' : t.toNat < s.p.th.length := by rw [← h.len]; exact hk
  have hmem : s.code t ∈ s.p.th := by unfold St.code; simp [List.getD_eq_getElem?_getD, List.getElem?_eq_getElem hk']
  have hc := (thrR_ok (List.all_eq_true.1 hall _ hmem)).2
  refine ⟨?_, hlt, hpc⟩
  unfold St.ins
  rw [if_pos ht]
  refine okI_of hv (List.all_eq_true.1 hc _ ?_)
  simp [List.getD_eq_getElem?_getD, List.getElem?_eq_getElem hlt]
end Go.Proofs.Ytcfeklnmampndaa
