/-
  Several texts in one: Draw, More, Maps, Cells, Words, Read, Borrow, Grow, Nils.
-/
import Derived.Test.YtkoechchjiddhaaLibA
import Derived.Orders
import Derived.Maps.Keyed
import Derived.OpenShut
import Derived.ShutString
import Derived.Carry
import Derived.SizedLaws
import Derived.DataReads
namespace Go.Sn
open Go Go.RowKit
set_option linter.unusedVariables false
set_option linter.unusedSimpArgs false

/-- An operation that, with these slots, leaves `d` and the heap as it was. -/
def OkAt (P : Program) (W : World) (ops : Array Oper) (H : Heap) (o : Oper) (d : D) (env : Env) : Prop :=
  match o.guard with
  | none => OpOk P W o (ev env) H fun d' H' => d' = d ∧ H' = H
  | some (j, g) => ∃ cs d0, guardA ops env j g = some cs ∧ d = wrapL cs d0 ∧ (allT cs → OpOk P W o (fun x => stripL cs (ev env x)) H fun d' H' => d' = d0 ∧ H' = H)

/-- What is told of a region: the functions that turn the heap; which loads and stores, and which blocks, are of a second sort of cells. -/
structure Cl where
  fs : Nat → Bool
  oc : Op → Bool
  kb : Nat → Bool
  /-- do calls of function values turn the heap? -/
  dv : Bool
  /-- functions whose calls look at nothing of ours -/
  ps : Nat → Bool
  /-- functions whose calls stand alone: all else waits for them, or they for it -/
  fe : Nat → Bool
def Cl.zero : Cl := ⟨fun _ => false, fun _ => false, fun _ => false, false, fun _ => false, fun _ => false⟩
def Cl.dyn : Cl := ⟨fun _ => false, fun _ => false, fun _ => false, true, fun _ => false, fun _ => false⟩
theorem Cl.dyn_plain : (∀ op, Cl.dyn.oc op = false) ∧ ∀ b, Cl.dyn.kb b = false := ⟨fun _ => rfl, fun _ => rfl⟩
def Cl.plain (ws : Cl) : Prop := (∀ op, ws.oc op = false) ∧ ∀ b, ws.kb b = false
theorem Cl.zero_plain : Cl.zero.plain := ⟨fun _ => rfl, fun _ => rfl⟩
def cc (b : Bool) : Nat := if b then 5 else 1
theorem cc_cases (b : Bool) : cc b = 1 ∨ cc b = 5 := by cases b <;> simp [cc]
def Wr (w : Nat) : Prop := w = 1 ∨ w = 2 ∨ w = 5
theorem Wr.cc (b : Bool) : Wr (cc b) := by cases b <;> simp [Go.Sn.cc, Wr]
/-- What an operation looks at: nothing (0), cells (1, 5), maps (2), rooms (3), all (4). -/
def opR (ws : Cl) : Op → Nat
  | .load t p => cc (ws.oc (.load t p))
  | .store t p x => cc (ws.oc (.store t p x))
  | .lookup _ _ _ _ => 2
  | .mapUpdate _ _ _ _ => 2
  | .mapEntry _ _ _ => 2
  | .entryStore _ _ _ _ => 2
  | .call c => match c.callee with
    | .builtin .max => 0
    | .builtin .min => 0
    | .builtin .len => 2
    | .builtin .append => 3
    | .value (.func f) => if ws.ps f && !ws.fs f then 0 else 4
    | _ => 4
  | _ => 0
/-- What it turns; `ws`: the functions that turn the heap. -/
def opW (ws : Cl) : Op → Nat
  | .store t p x => cc (ws.oc (.store t p x))
  | .mapUpdate _ _ _ _ => 2
  | .mapEntry _ _ _ => 2
  | .entryStore _ _ _ _ => 2
  | .call c => match c.callee with
    | .value (.func f) => if ws.fs f then 4 else 0
    | .value (.tmp _) => if ws.dv then 4 else 0
    | _ => 0
  | _ => 0
/-- Does it make a block? -/
def opN : Op → Bool
  | .alloc _ => true
  | .box _ _ => true
  | .makeMap _ _ => true
  | .makeSlice _ _ _ => true
  | .call c => match c.callee with
    | .builtin .append => true
    | _ => false
  | _ => false
/-- Does its call stand alone? -/
def opF (ws : Cl) : Op → Bool
  | .call c => match c.callee with
    | .value (.func f) => ws.fs f && ws.fe f
    | _ => false
  | _ => false
theorem opF_W {ws : Cl} {op : Op} (h : opF ws op = true) : opW ws op = 4 := by
  cases op <;> simp only [opF, Bool.false_eq_true] at h
  rename_i c
  obtain ⟨callee, args, ats⟩ := c
  cases callee with
  | value x => cases x <;> simp_all [opW]
  | builtin b => simp at h
  | invoke r n => simp at h
theorem opF_N {ws : Cl} {op : Op} (h : opF ws op = true) : opN op = false := by
  cases op <;> simp only [opF, Bool.false_eq_true] at h
  rename_i c
  obtain ⟨callee, args, ats⟩ := c
  cases callee with
  | value x => rfl
  | builtin b => simp at h
  | invoke r n => simp at h
theorem opW_R {ws : Cl} {op : Op} (h : opW ws op ≠ 0) : opR ws op = opW ws op := by
  cases op <;> simp only [opW, opR, ne_eq, not_true_eq_false, not_false_eq_true] at h ⊢
  rename_i c
  obtain ⟨callee, args, ats⟩ := c
  cases callee with
  | value x => cases x <;> simp_all
  | builtin b => simp at h
  | invoke r n => simp at h
theorem opR_3 {ws : Cl} {op : Op} (h : opN op = false) : opR ws op ≠ 3 := by
  cases op <;> simp only [opN, opR, ne_eq, reduceCtorEq, not_false_eq_true] at h ⊢ <;> first | omega | (simp only [cc]; split <;> omega) | skip
  rename_i c
  obtain ⟨callee, args, ats⟩ := c
  cases callee with
  | builtin b => cases b <;> simp at h ⊢
  | value x => cases x <;> simp <;> split <;> simp
  | _ => simp
theorem opR_le (ws : Cl) (op : Op) : opR ws op ≤ 5 := by
  cases op <;> simp only [opR, Nat.le_refl, Nat.zero_le, Nat.reduceLeDiff] <;> first | (simp only [cc]; split <;> omega) | skip
  split <;> first | omega | (split <;> omega)
theorem Wr.ne {w : Nat} (h : Wr w) : w ≠ 0 ∧ w ≠ 4 ∧ w ≠ 3 := by unfold Wr at h; omega

def _root_.Go.Sn.Res.cls : Res → Nat
  | .cells _ _ => 1
  | .map _ => 2
  | .grow _ _ _ _ => 3
  | .iter _ _ => 2
def clsR (ws : Cl) (b : Nat) : Res → Nat
  | .cells _ _ => cc (ws.kb b)
  | .map _ => 2
  | .grow _ _ _ _ => 3
  | .iter _ _ => 2
theorem clsR_3 {ws : Cl} {b : Nat} {r : Res} : clsR ws b r = 3 ↔ r.cls = 3 := by
  cases r <;> simp [clsR, Res.cls, cc]
  split <;> omega
/-- As far as such an operation looks, the heaps are the same. -/
def sameOn (ws : Cl) (m : Nat) (H H' : Heap) : Prop := (m ≠ 0 → m ≠ 4 → ∀ b r, H b = some r → clsR ws b r = m → H' b = some r) ∧ (m = 4 → H' = H)
theorem sameOn.zero (ws : Cl) (H H' : Heap) : sameOn ws 0 H H' := ⟨fun h => absurd rfl h, fun h => by omega⟩
theorem sameOn.refl (ws : Cl) (m : Nat) (H : Heap) : sameOn ws m H H := ⟨fun _ _ b r h _ => h, fun _ => rfl⟩
theorem sameOn.trans {ws : Cl} {m : Nat} {A B C : Heap} (h : sameOn ws m A B) (k : sameOn ws m B C) : sameOn ws m A C :=
  ⟨fun h1 h3 b r hb hc => k.1 h1 h3 b r (h.1 h1 h3 b r hb hc) hc, fun hm => (k.2 hm).trans (h.2 hm)⟩
def hit (w m : Nat) : Bool := w != 0 && m != 0 && (w == m || w == 4 || m == 4)
theorem sameOn.set {ws : Cl} {m w b : Nat} {H : Heap} {r0 r : Res} (h0 : H b = some r0) (hc : clsR ws b r0 = w) (hw : Wr w) (hm : hit w m = false) : sameOn ws m H (H.set b r) := by
  simp only [hit, Bool.and_eq_false_iff, bne_eq_false_iff_eq, Bool.or_eq_false_iff, beq_eq_false_iff_ne] at hm
  unfold Wr at hw
  refine ⟨fun h1 h3 c r' hcr hcl => ?_, fun h3 => by omega⟩
  rw [Heap.set_at]
  split
  · rename_i e; subst e; rw [h0] at hcr; cases hcr; omega
  · exact hcr
theorem sameOn.unset {ws : Cl} {m w b : Nat} {H H' : Heap} {r : Res} (hc : clsR ws b r = w) (hw : Wr w) (hm : hit w m = false) (h : sameOn ws m H H') : sameOn ws m (H.set b r) H' := by
  simp only [hit, Bool.and_eq_false_iff, bne_eq_false_iff_eq, Bool.or_eq_false_iff, beq_eq_false_iff_ne] at hm
  unfold Wr at hw
  refine ⟨fun h1 h3 c r' hcr hcl => ?_, fun h3 => by omega⟩
  rw [Heap.set_at] at hcr
  split at hcr
  · rename_i e; subst e; cases hcr; omega
  · exact h.1 h1 h3 c r' hcr hcl
/-- The heap without a room that is no longer ours. -/
def delO (H : Heap) : Option Nat → Heap
  | none => H
  | some b => H.del b

/-- One operation: what it gives, and the heap behind it. -/
def StepOk (P : Program) (W : World) (ws : Cl) (ops : Array Oper) (o : Oper) (d : D) (env : Env) (H H1 : Heap) : Prop :=
  (opW ws o.op = 0 ∧ H1 = H ∧ ∀ H', sameOn ws (opR ws o.op) H H' → OkAt P W ops H' o d env) ∨
    (Wr (opW ws o.op) ∧ o.guard = none ∧ ∃ b r0 r, H b = some r0 ∧ clsR ws b r0 = opW ws o.op ∧ clsR ws b r = opW ws o.op ∧ H1 = H.set b r ∧
      ∀ H', sameOn ws (opR ws o.op) H H' → OpOk P W o (ev env) H' fun d' H2 => d' = d ∧ H2 = H'.set b r) ∨
    (opW ws o.op = 4 ∧ opF ws o.op = false ∧ o.guard = none ∧ OpOk P W o (ev env) H fun d' H' => d' = d ∧ H' = H1)

/-- One that makes a block, whatever is there (in place of one with room, `dl`). -/
def NewOk (P : Program) (W : World) (o : Oper) (dl : Option Nat) (C : Nat → Prop) (r : Nat → Res) (mk : Nat → Nat → D) (env : Env) (H : Heap) : Prop :=
  opN o.op = true ∧ o.guard = none ∧ (∀ b, dl = some b → ∃ g, H b = some g ∧ g.cls = 3) ∧
    ∀ (H' : Heap), (∀ b, dl = some b → H' b = H b) → ∀ (K : D → Heap → Prop), (∀ b c, C c → delO H' dl b = none → K (mk b c) ((delO H' dl).set b (r c))) → OpOk P W o (ev env) H' K

/-- The operations of a region, one behind the other. -/
def RunD (P : Program) (W : World) (f : FuncId) (N : Nat) (Q : D → Heap → Prop) (ws : Cl) (ops : Array Oper) (k : List Item) : Heap → List Oper → Env → Prop
  | H, [], env => RunA P W f N Q k env H
  | H, o :: l, env => (∃ d H1, StepOk P W ws ops o d env H H1 ∧ RunD P W f N Q ws ops k H1 l (put N env o.dst d)) ∨
      (∃ dl C r mk, NewOk P W o dl C r mk env H ∧ ∀ b c, C c → delO H dl b = none → RunD P W f N Q ws ops k ((delO H dl).set b (r c)) l (put N env o.dst (mk b c))) ∨
      ∃ Q', opF ws o.op = true ∧ o.guard = none ∧ (∀ d H1, Q' d H1 → sameOn ws 5 H H1) ∧ OpOk P W o (ev env) H Q' ∧ ∀ d H1, Q' d H1 → RunD P W f N Q ws ops k H1 l (put N env o.dst d)

theorem allT_all (cs : List Bool) : allT cs ↔ cs.all id = true := by
  induction cs with
  | nil => simp [allT]
  | cons c cs ih => simp [allT, ih]
def waitsOn (oj : Oper) (i : Nat) : Bool := oj.after.any fun e => Region.binds .any e && e.on == i
def clash (ws : Cl) (oi oj : Oper) : Bool := hit (opW ws oi.op) (opR ws oj.op) || hit (opW ws oj.op) (opR ws oi.op)
/-- One waits for another, by way of others. -/
def reaches (ops : Array Oper) : Nat → Nat → Nat → Bool
  | 0, _, _ => false
  | n + 1, j, i => match ops[j]? with
    | some oj => oj.after.any fun e => Region.binds .any e && (e.on == i || reaches ops n e.on i)
    | none => false
/-- A look at cells of the second sort, ahead of a call that stands alone. -/
def freeOk (ws : Cl) (ops : Array Oper) (oi oj : Oper) : Bool := opF ws oj.op && !opF ws oi.op && oi.apart ops oj && opW ws oi.op == 0 && (opR ws oi.op == 0 || opR ws oi.op == 5) && !opN oi.op
/-- Two operations that may change places, or the second waits for the first. -/
def pairOk (ws : Cl) (ops : Array Oper) (i j : Nat) : Bool :=
  match ops[i]?, ops[j]? with
  | some oi, some oj => (oi.apart ops oj && !clash ws oi oj && !opN oi.op && (!opN oj.op || opR ws oi.op != 4) && !opF ws oi.op && !opF ws oj.op) || freeOk ws ops oi oj || waitsOn oj i || reaches ops 5 j i
  | _, _ => true
/-- The second may stand behind the first. -/
def behind (ws : Cl) (ops : Array Oper) (i j : Nat) : Bool := i != j && pairOk ws ops i j && ((ops[i]?).map fun oi => !waitsOn oi j).getD true
def behindAll (ws : Cl) (ops : Array Oper) : List Nat → Bool
  | [] => true
  | i :: l => l.all (behind ws ops i) && behindAll ws ops l
/-- Whatever is not ordered does not meet in the slots, nor in the heap; what is waited for stands ahead; `π`: the order in which we go. -/
def drawOk (ws : Cl) (ops : Array Oper) (π : List Nat) : Bool :=
  behindAll ws ops π && (List.range ops.size).all (fun i => π.contains i) && π.all (fun i => decide (i < ops.size)) && ops.toList.zipIdx.all fun x => x.1.after.all fun e => !Region.binds .any e || (decide (e.on < ops.size) && e.on != x.2)

section
variable {P : Program} {W : World} {f : FuncId} {N : Nat} {Q : D → Heap → Prop} {ws : Cl} {ops : Array Oper} {l : List Oper} {o : Oper} {k : List Item} {env : Env} {H : Heap}

theorem OpOk.congr {ρ ρ' : Operand → D} {K : D → Heap → Prop} (h : OpOk P W o ρ H K) (he : ∀ x ∈ o.op.operands, ρ x = ρ' x) : OpOk P W o ρ' H K :=
  fun G a w next Qx hI hρ hn => h G a w next Qx hI (fun x hx => by rw [he x hx]; exact hρ x hx) hn

theorem ev_congr {env env' : Env} {x : Operand} (hx : x ∈ o.op.operands) (he : ∀ t ∈ o.looksAt ops, env t = env' t) : ev env x = ev env' x := by
  cases x with
  | tmp t =>
    refine he t ?_
    unfold Oper.looksAt
    refine List.mem_append.2 (.inl (List.mem_filterMap.2 ⟨.tmp t, by simpa using hx, rfl⟩))
  | const v => rfl
  | global g => rfl
  | func f => rfl

theorem OkAt.congr {d : D} {env env' : Env} (h : OkAt P W ops H o d env) (he : ∀ t ∈ o.looksAt ops, env t = env' t) : OkAt P W ops H o d env' := by
  unfold OkAt at h ⊢
  cases hg : o.guard with
  | none =>
    simp only [hg] at h ⊢
    exact h.congr fun x hx => ev_congr hx he
  | some jg =>
    obtain ⟨j, g⟩ := jg
    simp only [hg] at h ⊢
    obtain ⟨cs, d0, h1, h2, h3⟩ := h
    refine ⟨cs, d0, ?_, h2, fun hc => (h3 hc).congr fun x hx => by rw [ev_congr (ops := ops) hx he]⟩
    rw [← h1]
    unfold guardA
    cases ho : ops[j]? with
    | none => rfl
    | some o' =>
      cases hd : o'.dst with
      | none => simp [hd]
      | some t =>
        simp only [hd]
        rw [he t]
        unfold Oper.looksAt
        exact List.mem_append.2 (.inr (by simp [hg, ho, hd]))

theorem put_at_ne {N : Nat} {env : Env} {dst : Option Tmp} {d : D} {t : Nat} (h : dst ≠ some t) : put N env dst d t = env t := by
  cases dst with
  | none => rfl
  | some k =>
    simp only [put_some]
    split
    · rw [upd_at, if_neg (fun e => h (by rw [e]))]
    · rfl

theorem put_comm {N : Nat} {env : Env} {x y : Option Tmp} {d e : D} (h : ∀ t, x = some t → y ≠ some t) : put N (put N env x d) y e = put N (put N env y e) x d := by
  funext t
  by_cases hx : x = some t
  · have hy := h t hx
    rw [put_at_ne hy]
    subst hx
    simp only [put_some]
    split
    · simp [upd_at]
    · rw [put_at_ne hy]
  · rw [put_at_ne (env := put N env y e) hx]
    by_cases hy : y = some t
    · subst hy
      simp only [put_some]
      split
      · simp [upd_at]
      · rw [put_at_ne hx]
    · rw [put_at_ne hy, put_at_ne hy, put_at_ne hx]

/-- The operations that are left. -/
def Vs (P : Program) (W : World) (f : FuncId) (N : Nat) (Q : D → Heap → Prop) (ws : Cl) (ops : Array Oper) (k : List Item) : Heap → List Nat → Env → Prop
  | H, [], env => RunA P W f N Q k env H
  | H, i :: R, env => ∃ o, ops[i]? = some o ∧ ((∃ d H1, StepOk P W ws ops o d env H H1 ∧ Vs P W f N Q ws ops k H1 R (put N env o.dst d)) ∨
      (∃ dl C r mk, NewOk P W o dl C r mk env H ∧ ∀ b c, C c → delO H dl b = none → Vs P W f N Q ws ops k ((delO H dl).set b (r c)) R (put N env o.dst (mk b c))) ∨
      ∃ Q', opF ws o.op = true ∧ o.guard = none ∧ (∀ d H1, Q' d H1 → sameOn ws 5 H H1) ∧ OpOk P W o (ev env) H Q' ∧ ∀ d H1, Q' d H1 → Vs P W f N Q ws ops k H1 R (put N env o.dst d))

theorem NewOk.congr {dl : Option Nat} {C : Nat → Prop} {r : Nat → Res} {mk : Nat → Nat → D} {env env' : Env} (h : NewOk P W o dl C r mk env H) (he : ∀ t ∈ o.looksAt ops, env t = env' t) : NewOk P W o dl C r mk env' H :=
  ⟨h.1, h.2.1, h.2.2.1, fun H' hH K hK => (h.2.2.2 H' hH K hK).congr fun x hx => ev_congr (ops := ops) hx he⟩

theorem OpOk.congrE {ρ ρ' : Operand → D} {K : D → Heap → Prop} (h : OpOk P W o ρ H K) (he : ∀ x ∈ o.op.operands, ρ x = ρ' x) : OpOk P W o ρ' H K := h.congr he

theorem StepOk.congr {d : D} {env env' : Env} {H1 : Heap} (h : StepOk P W ws ops o d env H H1) (he : ∀ t ∈ o.looksAt ops, env t = env' t) : StepOk P W ws ops o d env' H H1 := by
  rcases h with ⟨h1, h2, h3⟩ | ⟨h1, h2, b, r0, r, h3, h4, h5, h6, h7⟩ | ⟨h1, h0, h2, h3⟩
  · exact .inl ⟨h1, h2, fun H' hs => (h3 H' hs).congr he⟩
  · exact .inr (.inl ⟨h1, h2, b, r0, r, h3, h4, h5, h6, fun H' hs => (h7 H' hs).congr fun x hx => ev_congr (ops := ops) hx he⟩)
  · exact .inr (.inr ⟨h1, h0, h2, h3.congr fun x hx => ev_congr (ops := ops) hx he⟩)
theorem StepOk.noF {d : D} {env : Env} {H1 : Heap} (h : StepOk P W ws ops o d env H H1) : opF ws o.op = false := by
  cases hf : opF ws o.op with
  | false => rfl
  | true =>
    have hw := opF_W hf
    rcases h with ⟨h1, _⟩ | ⟨h1, _⟩ | ⟨_, h0, _⟩
    · omega
    · have := h1.ne; omega
    · rw [hf] at h0; cases h0

/-- Two that do not clash change places. -/
theorem StepOk.swap {oi oj : Oper} {di dj : D} {e1 e2 : Env} {H1 H2 : Heap} (hc : clash ws oj oi = false) (hj : StepOk P W ws ops oj dj e1 H H1) (hi : StepOk P W ws ops oi di e2 H1 H2) :
    ∃ H1', StepOk P W ws ops oi di e2 H H1' ∧ StepOk P W ws ops oj dj e1 H1' H2 := by
  simp only [clash, Bool.or_eq_false_iff] at hc
  obtain ⟨hji, hij⟩ := hc
  have ri := opR_le ws oi.op
  have rj := opR_le ws oj.op
  have wi := opW_R (ws := ws) (op := oi.op)
  have wj := opW_R (ws := ws) (op := oj.op)
  rcases hj with ⟨j1, rfl, j3⟩ | ⟨j1, j2, b, r0, r, j3, j4, j5, rfl, j7⟩ | ⟨j1, j2, j3⟩
  · refine ⟨H2, hi, .inl ⟨j1, rfl, fun H' hs => j3 H' ?_⟩⟩
    rcases hi with ⟨i1, rfl, i3⟩ | ⟨i1, i2, b', r0', r', i3, i4, i5, rfl, i7⟩ | ⟨i1, i2, i3⟩
    · exact hs
    · exact (sameOn.set i3 i4 i1 hij).trans hs
    · rw [i1] at hij
      have : opR ws oj.op = 0 := by simp [hit] at hij; omega
      rw [this]; exact sameOn.zero _ _ _
  · rcases hi with ⟨i1, rfl, i3⟩ | ⟨i1, i2, b', r0', r', i3, i4, i5, rfl, i7⟩ | ⟨i1, i2, i3⟩
    · exact ⟨H, .inl ⟨i1, rfl, fun H' hs => i3 H' (sameOn.unset j5 j1 hji hs)⟩, .inr (.inl ⟨j1, j2, b, r0, r, j3, j4, j5, rfl, j7⟩)⟩
    · have hne : opW ws oj.op ≠ opW ws oi.op := by
        have i1' := i1.ne
        have j1' := j1.ne
        rw [wi i1'.1] at hji
        simp only [hit, Bool.and_eq_false_iff, bne_eq_false_iff_eq, Bool.or_eq_false_iff, beq_eq_false_iff_ne] at hji
        omega
      have hbb : b' ≠ b := by
        intro e
        subst e
        rw [Heap.set_same] at i3
        cases i3
        omega
      rw [Heap.set_other _ _ hbb] at i3
      refine ⟨H.set b' r', .inr (.inl ⟨i1, i2, b', r0', r', i3, i4, i5, rfl, fun H' hs => i7 H' (sameOn.unset j5 j1 hji hs)⟩), .inr (.inl ⟨j1, j2, b, r0, r, ?_, j4, j5, ?_, fun H' hs => j7 H' ?_⟩)⟩
      · rw [Heap.set_other _ _ (fun e => hbb e.symm)]; exact j3
      · exact Heap.set_comm _ _ _ (fun e => hbb e.symm)
      · exact (sameOn.set i3 i4 i1 hij).trans hs
    · exfalso
      have j1' := j1.ne
      rw [wi (by omega), i1] at hji
      simp [hit] at hji
      omega
  · rcases hi with ⟨i1, rfl, i3⟩ | ⟨i1, i2, b', r0', r', i3, i4, i5, rfl, i7⟩ | ⟨i1, i2, i3⟩
    · have : opR ws oi.op = 0 := by rw [j1] at hji; simp [hit] at hji; omega
      rw [this] at i3
      exact ⟨H, .inl ⟨i1, rfl, fun H' hs => i3 H' (sameOn.zero _ _ _)⟩, .inr (.inr ⟨j1, j2, j3⟩)⟩
    · exfalso
      have i1' := i1.ne
      rw [j1, wi i1'.1] at hji
      simp [hit] at hji
      omega
    · exfalso
      rw [j1, wi (by omega), i1] at hji
      simp [hit] at hji

theorem delO_other {H : Heap} {dl : Option Nat} {c : Nat} (h : ∀ b, dl = some b → c ≠ b) : delO H dl c = H c := by
  cases dl with
  | none => rfl
  | some b => simp only [delO, Heap.del_at]; rw [if_neg (h b rfl)]
theorem delO_set {H : Heap} {dl : Option Nat} {c : Nat} {r : Res} (h : ∀ b, dl = some b → c ≠ b) : delO (H.set c r) dl = (delO H dl).set c r := by
  cases dl with
  | none => rfl
  | some b =>
    funext k
    simp only [delO, Heap.del_at, Heap.set_at]
    by_cases e : k = b
    · have := h b rfl
      rw [if_pos e, if_neg (by omega), if_pos e]
    · rw [if_neg e, if_neg e]

theorem StepOk.fresh {r : Res} {d : D} {H1 : Heap} {b : Nat} {dl : Option Nat} (h : StepOk P W ws ops o d env H H1) (hr : opR ws o.op ≠ 4) (hr3 : opR ws o.op ≠ 3) (hdl : ∀ c, dl = some c → ∃ g, H c = some g ∧ g.cls = 3) (hb : delO H dl b = none) :
    StepOk P W ws ops o d env ((delO H dl).set b r) ((delO H1 dl).set b r) ∧ delO H1 dl b = none := by
  have r3 := opR_le ws o.op
  have wr := opW_R (ws := ws) (op := o.op)
  have hne : ∀ c r', H c = some r' → r'.cls ≠ 3 → c ≠ b ∧ ∀ x, dl = some x → c ≠ x := by
    intro c r' hcr hcl
    have h1 : ∀ x, dl = some x → c ≠ x := fun x hx e => by
      obtain ⟨g, hg, hg3⟩ := hdl x hx
      subst e
      rw [hcr] at hg
      cases hg
      exact hcl hg3
    refine ⟨fun e => ?_, h1⟩
    subst e
    rw [delO_other h1, hcr] at hb
    cases hb
  have hs : ∀ H', sameOn ws (opR ws o.op) ((delO H dl).set b r) H' → sameOn ws (opR ws o.op) H H' := fun H' hs => by
    refine ⟨fun h1 h2 c r' hcr hcl => ?_, fun h3 => by omega⟩
    obtain ⟨hcb, hcd⟩ := hne c r' hcr (fun e => by rw [← clsR_3 (ws := ws) (b := c)] at e; omega)
    exact hs.1 h1 h2 c r' (by rw [Heap.set_other _ _ hcb, delO_other hcd]; exact hcr) hcl
  rcases h with ⟨h1, rfl, h3⟩ | ⟨h1, h2, b0, r0, r', h3, h4, h5, rfl, h7⟩ | ⟨h1, h2, h3⟩
  · exact ⟨.inl ⟨h1, rfl, fun H' h' => h3 H' (hs H' h')⟩, hb⟩
  · have hwn := h1.ne
    obtain ⟨hcb, hcd⟩ := hne b0 r0 h3 (fun e => by rw [← clsR_3 (ws := ws) (b := b0)] at e; omega)
    rw [delO_set hcd]
    refine ⟨.inr (.inl ⟨h1, h2, b0, r0, r', by rw [Heap.set_other _ _ hcb, delO_other hcd]; exact h3, h4, h5, Heap.set_comm _ _ _ hcb, fun H' h' => h7 H' (hs H' h')⟩), ?_⟩
    rw [Heap.set_other _ _ (fun e => hcb e.symm)]
    exact hb
  · exact absurd (wr (by omega)) (by omega)

/-- The room is still there behind a step that does not look at it. -/
theorem StepOk.room {d : D} {H1 : Heap} {dl : Option Nat} (h : StepOk P W ws ops o d env H H1) (hr : opR ws o.op ≠ 4) (hdl : ∀ c, dl = some c → ∃ g, H1 c = some g ∧ g.cls = 3) :
    ∀ c, dl = some c → H c = H1 c := by
  have wr := opW_R (ws := ws) (op := o.op)
  intro c hc
  rcases h with ⟨h1, rfl, h3⟩ | ⟨h1, h2, b0, r0, r', h3, h4, h5, rfl, h7⟩ | ⟨h1, h2, h3⟩
  · rfl
  · obtain ⟨g, hg, hg3⟩ := hdl c hc
    rw [Heap.set_at] at hg
    split at hg
    · rename_i e; subst e; cases hg; rw [← clsR_3 (ws := ws) (b := c)] at hg3; have := h1.ne; omega
    · rename_i hne
      rw [Heap.set_other _ _ hne]
  · exact absurd (wr (by omega)) (by omega)

theorem vs_take {i : Nat} {R2 : List Nat} {oi : Oper} (hoi : ops[i]? = some oi) : ∀ (R1 : List Nat) (env : Env) (H : Heap),
    (∀ x ∈ R1, ∀ oj, ops[x]? = some oj → (oj.apart ops oi = true ∧ clash ws oj oi = false ∧ opN oj.op = false ∧ (opN oi.op = true → opR ws oj.op ≠ 4) ∧ opF ws oj.op = false ∧ opF ws oi.op = false) ∨ freeOk ws ops oj oi = true) →
    Vs P W f N Q ws ops k H (R1 ++ i :: R2) env → (∃ d H1, StepOk P W ws ops oi d env H H1 ∧ Vs P W f N Q ws ops k H1 (R1 ++ R2) (put N env oi.dst d)) ∨
      (∃ dl C r mk, NewOk P W oi dl C r mk env H ∧ ∀ b c, C c → delO H dl b = none → Vs P W f N Q ws ops k ((delO H dl).set b (r c)) (R1 ++ R2) (put N env oi.dst (mk b c))) ∨
      ∃ Q', opF ws oi.op = true ∧ oi.guard = none ∧ (∀ d H1, Q' d H1 → sameOn ws 5 H H1) ∧ OpOk P W oi (ev env) H Q' ∧ ∀ d H1, Q' d H1 → Vs P W f N Q ws ops k H1 (R1 ++ R2) (put N env oi.dst d)
  | [], env, H, _, h => by
    obtain ⟨o, ho, h1⟩ := h
    rw [hoi] at ho
    cases ho
    exact h1
  | j :: R1, env, H, ha, h => by
    obtain ⟨oj, hoj, h⟩ := h
    rcases ha j (by simp) oj hoj with ⟨hap, hcl, hnj, hni, hfj, hfi⟩ | hfree
    rotate_left
    · -- a look at cells of the second sort, and a call that keeps those
      simp only [freeOk, Bool.and_eq_true, Bool.not_eq_true', beq_iff_eq, Bool.or_eq_true] at hfree
      obtain ⟨⟨⟨⟨⟨hfi, hfj⟩, hap⟩, hw0⟩, hr05⟩, hnj⟩ := hfree
      obtain ⟨h5, h6, h7⟩ := Oper.apart_spec hap
      rcases h with ⟨dj, Hj, h1, h2⟩ | ⟨_, _, _, _, hn, _⟩ | ⟨_, hf, _⟩
      · have h1c := fun env' he => h1.congr (env' := env') he
        rcases h1 with ⟨_, rfl, _⟩ | ⟨j1, _⟩ | ⟨j1, _⟩
        · rcases vs_take hoi R1 (put N env oj.dst dj) Hj (fun x hx => ha x (by simp [hx])) h2 with ⟨d, H2, h3, _⟩ | ⟨dl, C, r, mk, h3, _⟩ | ⟨Q', _, hg, hfr, hop, hk⟩
          · rw [h3.noF] at hfi; cases hfi
          · have h4 := h3.1
            rw [opF_N hfi] at h4
            cases h4
          · refine .inr (.inr ⟨Q', hfi, hg, hfr, hop.congr fun x hx => ev_congr (ops := ops) hx fun t ht => put_at_ne fun e => h5 t e ht, fun d H1 hq => ⟨oj, hoj, .inl ⟨dj, H1, ?_, ?_⟩⟩⟩)
            · rcases h1c (put N env oi.dst d) (fun t ht => (put_at_ne fun e => h7 t e ht).symm) with ⟨_, _, j3⟩ | ⟨j1, _⟩ | ⟨j1, _⟩
              · refine .inl ⟨hw0, rfl, fun H' hs => j3 H' ?_⟩
                rcases hr05 with e | e
                · rw [e]; exact sameOn.zero _ _ _
                · rw [e] at hs ⊢; exact (hfr d H1 hq).trans hs
              · have := j1.ne; omega
              · omega
            · rw [← put_comm h6]
              exact hk d H1 hq
        · have := j1.ne; omega
        · omega
      · rw [hn.1] at hnj; cases hnj
      · rw [hfj] at hf; cases hf
    obtain ⟨h5, h6, h7⟩ := Oper.apart_spec hap
    rcases h with ⟨dj, Hj, h1, h2⟩ | ⟨_, _, _, _, hn, _⟩ | ⟨_, hf, _⟩
    · rcases vs_take hoi R1 (put N env oj.dst dj) Hj (fun x hx => ha x (by simp [hx])) h2 with ⟨d, H2, h3, h4⟩ | ⟨dl, C, r, mk, h3, h4⟩ | ⟨_, hf, _⟩
      · have h3' := h3.congr (env' := env) fun t ht => put_at_ne fun e => h5 t e ht
        have h1' := h1.congr (env' := put N env oi.dst d) fun t ht => (put_at_ne fun e => h7 t e ht).symm
        obtain ⟨H1', g1, g2⟩ := StepOk.swap hcl h1' h3'
        refine .inl ⟨d, H1', g1, oj, hoj, .inl ⟨dj, H2, g2, ?_⟩⟩
        rw [← put_comm h6]
        exact h4
      · have h3' := h3.congr (ops := ops) (env' := env) fun t ht => put_at_ne fun e => h5 t e ht
        have hroom := h1.room (dl := dl) (hni h3.1) h3.2.2.1
        have hdl : ∀ c, dl = some c → ∃ g, H c = some g ∧ g.cls = 3 := fun c hc => by rw [hroom c hc]; exact h3.2.2.1 c hc
        refine .inr (.inl ⟨dl, C, r, mk, ⟨h3'.1, h3'.2.1, hdl, fun H' hH => h3'.2.2.2 H' fun c hc => (hH c hc).trans (hroom c hc)⟩, fun b c hC hb => ⟨oj, hoj, ?_⟩⟩)
        have h1' := h1.congr (env' := put N env oi.dst (mk b c)) fun t ht => (put_at_ne fun e => h7 t e ht).symm
        obtain ⟨g1, g2⟩ := h1'.fresh (r := r c) (hni h3.1) (opR_3 hnj) hdl hb
        refine .inl ⟨dj, _, g1, ?_⟩
        rw [← put_comm h6]
        exact h4 b c hC g2
      · rw [hfi] at hf; cases hf
    · rw [hn.1] at hnj; cases hnj
    · rw [hfj] at hf; cases hf

theorem vs_of_runD : ∀ (l : List Oper) (π : List Nat) (env : Env) (H : Heap), l.length = π.length → (∀ (j i : Nat) (o : Oper), l[j]? = some o → π[j]? = some i → ops[i]? = some o) → RunD P W f N Q ws ops k H l env →
    Vs P W f N Q ws ops k H π env
  | [], [], env, H, _, _, h => h
  | [], _ :: _, _, _, hl, _, _ => by simp at hl
  | _ :: _, [], _, _, hl, _, _ => by simp at hl
  | o :: l, i :: π, env, H, hlen, hl, h => by
    have hl' : ∀ (j i : Nat) (o' : Oper), l[j]? = some o' → π[j]? = some i → ops[i]? = some o' := fun j i o' hj hi => hl (j + 1) i o' (by simpa using hj) (by simpa using hi)
    have hlen' : l.length = π.length := by simpa using hlen
    refine ⟨o, hl 0 i o rfl rfl, ?_⟩
    rcases h with ⟨d, H1, h1, h2⟩ | ⟨dl, C, r, mk, h1, h2⟩ | ⟨Q', h1, hg, hfr, h2, h3⟩
    · exact .inl ⟨d, H1, h1, vs_of_runD l π _ H1 hlen' hl' h2⟩
    · exact .inr (.inl ⟨dl, C, r, mk, h1, fun b c hC hb => vs_of_runD l π _ _ hlen' hl' (h2 b c hC hb)⟩)
    · exact .inr (.inr ⟨Q', h1, hg, hfr, h2, fun d H1 hq => vs_of_runD l π _ H1 hlen' hl' (h3 d H1 hq)⟩)

theorem wpOp_okAt {i : Nat} {o : Oper} {d : D} {G : IG} {a : Act} {w : World} {Qx : Exit → Act → World → Prop} {next : Act → World → Prop} (ho : ops[i]? = some o) (hI : Inv W G H w) (hE : RepEnv G a env)
    (hN : a.tmps.size = N) (h : OkAt P W ops H o d env) (hn : ∀ G' a' w', G.le G' → Inv W G' H w' → RepEnv G' a' (put N env o.dst d) → a'.tmps.size = N → a'.defers = a.defers → next a' w') :
    wpOp P ops Qx i next a w := by
  unfold wpOp
  simp only [ho]
  unfold OkAt at h
  split at h
  · rename_i hg
    rw [if_pos (by simp [Region.wanted, hg])]
    refine .inl (h G a w _ _ hI (fun x _ => hE.ev x) fun v d' H' G' w' hG hI' hR hK => ?_)
    obtain ⟨rfl, rfl⟩ := hK
    refine hn G' _ w' hG hI' ?_ (by rw [Act.size_put]; exact hN) (Act.defers_put _ _ _)
    rw [← hN]
    exact (hE.mono hG).put hR _
  · rename_i j g hg
    obtain ⟨cs, d0, ht, rfl, hc⟩ := h
    by_cases hall : allT cs
    · rw [if_pos (by simp [Region.wanted, hg, guardA_T hE ht hall])]
      refine .inl (hc hall G a w _ _ hI (fun x _ => (hE.ev x).stripL hall) fun v d' H' G' w' hG hI' hR hK => ?_)
      obtain ⟨rfl, rfl⟩ := hK
      refine hn G' _ w' hG hI' ?_ (by rw [Act.size_put]; exact hN) (Act.defers_put _ _ _)
      rw [← hN]
      exact (hE.mono hG).put (hR.wrapT cs hall) _
    · rw [if_neg (by simp [Region.wanted, hg, guardA_F hE ht hall])]
      refine hn G _ w (.refl G) hI ?_ (by rw [Act.size_put]; exact hN) (Act.defers_put _ _ _)
      rw [← hN]
      exact hE.put (Rep.wrapF cs hall) _

theorem wpOp_step {i : Nat} {o : Oper} {d : D} {G : IG} {a : Act} {w : World} {H1 : Heap} {Qx : Exit → Act → World → Prop} {next : Act → World → Prop} (ho : ops[i]? = some o) (hI : Inv W G H w) (hE : RepEnv G a env)
    (hN : a.tmps.size = N) (h : StepOk P W ws ops o d env H H1) (hn : ∀ G' a' w', G.le G' → Inv W G' H1 w' → RepEnv G' a' (put N env o.dst d) → a'.tmps.size = N → a'.defers = a.defers → next a' w') :
    wpOp P ops Qx i next a w := by
  have turn : ∀ (hg : o.guard = none), (OpOk P W o (ev env) H fun d' H' => d' = d ∧ H' = H1) → wpOp P ops Qx i next a w := by
    intro h2 h3
    unfold wpOp
    simp only [ho]
    rw [if_pos (by simp [Region.wanted, h2])]
    refine .inl (h3 G a w _ _ hI (fun x _ => hE.ev x) fun v d' H' G' w' hG hI' hR hK => ?_)
    obtain ⟨rfl, rfl⟩ := hK
    refine hn G' _ w' hG hI' ?_ (by rw [Act.size_put]; exact hN) (Act.defers_put _ _ _)
    rw [← hN]
    exact (hE.mono hG).put hR _
  rcases h with ⟨h1, rfl, h2⟩ | ⟨h1, h2, b, r0, r, h3, h4, h5, rfl, h7⟩ | ⟨h1, _, h2, h3⟩
  · exact wpOp_okAt ho hI hE hN (h2 _ (sameOn.refl _ _ _)) hn
  · exact turn h2 (h7 _ (sameOn.refl _ _ _))
  · exact turn h2 h3

theorem wpOp_new {i : Nat} {o : Oper} {dl : Option Nat} {C : Nat → Prop} {r : Nat → Res} {mk : Nat → Nat → D} {G : IG} {a : Act} {w : World} {Qx : Exit → Act → World → Prop} {next : Act → World → Prop} (ho : ops[i]? = some o) (hI : Inv W G H w) (hE : RepEnv G a env)
    (hN : a.tmps.size = N) (h : NewOk P W o dl C r mk env H) (hn : ∀ b c G' a' w', C c → delO H dl b = none → G.le G' → Inv W G' ((delO H dl).set b (r c)) w' → RepEnv G' a' (put N env o.dst (mk b c)) → a'.tmps.size = N → a'.defers = a.defers → next a' w') :
    wpOp P ops Qx i next a w := by
  obtain ⟨_, h2, _, h3⟩ := h
  unfold wpOp
  simp only [ho]
  rw [if_pos (by simp [Region.wanted, h2])]
  refine .inl (h3 H (fun _ _ => rfl) (fun d' H' => ∃ b c, C c ∧ delO H dl b = none ∧ d' = mk b c ∧ H' = (delO H dl).set b (r c)) (fun b c hC hb => ⟨b, c, hC, hb, rfl, rfl⟩) G a w _ _ hI (fun x _ => hE.ev x) fun v d' H' G' w' hG hI' hR hK => ?_)
  obtain ⟨b, c, hC, hb, rfl, rfl⟩ := hK
  refine hn b c G' _ w' hC hb hG hI' ?_ (by rw [Act.size_put]; exact hN) (Act.defers_put _ _ _)
  rw [← hN]
  exact (hE.mono hG).put hR _

theorem wpOp_gen {i : Nat} {o : Oper} {Q' : D → Heap → Prop} {G : IG} {a : Act} {w : World} {Qx : Exit → Act → World → Prop} {next : Act → World → Prop} (ho : ops[i]? = some o) (hI : Inv W G H w) (hE : RepEnv G a env)
    (hN : a.tmps.size = N) (hg : o.guard = none) (h : OpOk P W o (ev env) H Q') (hn : ∀ d H1 G' a' w', Q' d H1 → G.le G' → Inv W G' H1 w' → RepEnv G' a' (put N env o.dst d) → a'.tmps.size = N → a'.defers = a.defers → next a' w') :
    wpOp P ops Qx i next a w := by
  unfold wpOp
  simp only [ho]
  rw [if_pos (by simp [Region.wanted, hg])]
  refine .inl (h G a w _ _ hI (fun x _ => hE.ev x) fun v d' H' G' w' hG hI' hR hK => ?_)
  refine hn d' H' G' _ w' hK hG hI' ?_ (by rw [Act.size_put]; exact hN) (Act.defers_put _ _ _)
  rw [← hN]
  exact (hE.mono hG).put hR _

/-- What stands behind what. -/
def Behind (ws : Cl) (ops : Array Oper) (i j : Nat) : Prop := behind ws ops i j = true
theorem behindAll_pair : ∀ {π : List Nat}, behindAll ws ops π = true → π.Pairwise (Behind ws ops)
  | [], _ => .nil
  | i :: l, h => by
    simp only [behindAll, Bool.and_eq_true, List.all_eq_true] at h
    exact .cons (fun j hj => h.1 j hj) (behindAll_pair h.2)
theorem Behind.pair {i j : Nat} {oi oj : Oper} (h : Behind ws ops i j) (hi : ops[i]? = some oi) (hj : ops[j]? = some oj) :
    (((oi.apart ops oj = true ∧ clash ws oi oj = false ∧ opN oi.op = false ∧ (opN oj.op = true → opR ws oi.op ≠ 4) ∧ opF ws oi.op = false ∧ opF ws oj.op = false) ∨ freeOk ws ops oi oj = true) ∨ reaches ops 5 j i = true) ∧ i ≠ j ∧ ¬ ∃ e ∈ oi.after, Region.binds .any e = true ∧ e.on = j := by
  unfold Behind behind pairOk at h
  simp only [hi, hj, Bool.and_eq_true, bne_iff_ne, ne_eq, Option.map_some, Option.getD_some, Bool.not_eq_true', Bool.or_eq_true] at h
  obtain ⟨⟨h1, h2⟩, h3⟩ := h
  refine ⟨?_, h1, ?_⟩
  · rcases h2 with ((h2 | h2) | h2) | h2
    · obtain ⟨⟨⟨⟨⟨g1, g2⟩, g3⟩, g4⟩, g5⟩, g6⟩ := h2
      refine .inl (.inl ⟨g1, g2, g3, fun e => ?_, g5, g6⟩)
      rcases g4 with g4 | g4
      · rw [e] at g4; cases g4
      · simpa using g4
    · exact .inl (.inr h2)
    · right
      unfold waitsOn at h2
      rw [Array.any_eq_true'] at h2
      obtain ⟨e, he, hb⟩ := h2
      simp only [Bool.and_eq_true, beq_iff_eq] at hb
      unfold reaches
      rw [hj]
      simp only
      rw [Array.any_eq_true']
      exact ⟨e, he, by simp [hb.1, hb.2]⟩
    · exact .inr h2
  · rintro ⟨e, he, hb, hon⟩
    unfold waitsOn at h3
    rw [Array.any_eq_false'] at h3
    have := h3 e he
    simp [hb, hon] at this

structure DrawOk (ws : Cl) (ops : Array Oper) (π : List Nat) : Prop where
  pair : π.Pairwise (Behind ws ops)
  all : ∀ i, i < ops.size ↔ i ∈ π
  waits : ∀ (i : Nat) (o : Oper), ops[i]? = some o → ∀ e ∈ o.after, Region.binds .any e = true → e.on < ops.size ∧ e.on ≠ i
theorem drawOk_ok {π : List Nat} (h : drawOk ws ops π = true) : DrawOk ws ops π := by
  simp only [drawOk, Bool.and_eq_true, List.all_eq_true, decide_eq_true_eq, List.mem_range, List.contains_iff_mem] at h
  obtain ⟨⟨⟨h1, h2⟩, h3⟩, h4⟩ := h
  refine ⟨behindAll_pair h1, fun i => ⟨h2 i, h3 i⟩, fun i o ho e he hb => ?_⟩
  have h5 := h4 (o, i) (by
    rw [List.mem_zipIdx_iff_getElem?]
    simpa using ho)
  rw [Array.all_eq_true'] at h5
  have h6 := h5 e he
  simp only [hb, Bool.not_true, Bool.false_or, Bool.and_eq_true, decide_eq_true_eq, bne_iff_ne] at h6
  exact h6

theorem reaches_listed {listed : Array Bool} (hcl : ∀ (j : Nat) (o : Oper), listed.getD j false = true → ops[j]? = some o → ∀ e ∈ o.after, Region.binds .any e = true → listed.getD e.on false = true) :
    ∀ (n j i : Nat) (o : Oper), ops[j]? = some o → (∀ e ∈ o.after, Region.binds .any e = true → listed.getD e.on false = true) → reaches ops n j i = true → listed.getD i false = true
  | 0, _, _, _, _, _, h => by cases h
  | n + 1, j, i, o, ho, hr, h => by
    unfold reaches at h
    rw [ho] at h
    simp only at h
    rw [Array.any_eq_true'] at h
    obtain ⟨e, he, hb⟩ := h
    simp only [Bool.and_eq_true, Bool.or_eq_true, beq_iff_eq] at hb
    obtain ⟨hb, hon | hon⟩ := hb
    · rw [← hon]; exact hr e he hb
    · have hl := hr e he hb
      cases hoe : ops[e.on]? with
      | none =>
        cases n with
        | zero => cases hon
        | succ n => unfold reaches at hon; rw [hoe] at hon; cases hon
      | some oe => exact reaches_listed hcl n e.on i oe hoe (hcl e.on oe hl hoe) hon

theorem wpAny_vs {π : List Nat} (hchk : DrawOk ws ops π) {G0 : IG} : ∀ (n : Nat) (R : List Nat) (listed : Array Bool), R.length = n → listed.size = ops.size →
    R.Pairwise (Behind ws ops) → (∀ i, i < ops.size → (listed.getD i true = false ↔ i ∈ R)) →
    (∀ (j : Nat) (o : Oper), listed.getD j false = true → ops[j]? = some o → ∀ e ∈ o.after, Region.binds .any e = true → listed.getD e.on false = true) →
    ∀ (env : Env) (H : Heap) (G : IG) (a : Act) (w : World), Vs P W f N Q ws ops k H R env → G0.le G → Inv W G H w → RepEnv G a env → a.tmps.size = N → a.defers = [] →
      wpAny P .any ops (After P W f N Q k G0) n listed a w := by
  intro n
  induction n with
  | zero =>
    intro R listed hn hls hp hR hcl env H G a w hV hG hI hE hN hd
    have : R = [] := List.eq_nil_of_length_eq_zero hn
    subst this
    refine ⟨?_, rfl, G, env, H, hG, hI, hE, hN, hd, hV⟩
    apply List.eq_nil_iff_forall_not_mem.2
    intro i hi
    rw [mem_ready] at hi
    obtain ⟨h0, o, ho, _⟩ := hi
    have := (hR i (Array.getElem?_eq_some_iff.1 ho).1).1 h0
    simp at this
  | succ n ih =>
    intro R listed hn hls hp hR hcl env H G a w hV hG hI hE hN hd
    refine ⟨fun hr => ?_, fun i hi => ?_⟩
    · -- the first that is left is ready
      exfalso
      match R, hn, hV, hp, hR with
      | i :: R', hn, hV, hp, hR =>
        obtain ⟨o, ho, _⟩ := hV
        have his : i < ops.size := (Array.getElem?_eq_some_iff.1 ho).1
        have : i ∈ Region.ready .any ops listed := by
          rw [mem_ready]
          refine ⟨(hR i his).2 (by simp), o, ho, fun e he hb => ?_⟩
          obtain ⟨hlt, hne⟩ := hchk.waits i o ho e he hb
          cases hl : listed.getD e.on false with
          | true => rfl
          | false =>
            exfalso
            have hels : e.on < listed.size := by omega
            have hl' : listed.getD e.on true = false := by
              simp only [Array.getD_eq_getD_getElem?, Array.getElem?_eq_getElem hels, Option.getD_some] at hl ⊢
              exact hl
            have hm := (hR e.on (by omega)).1 hl'
            simp only [List.mem_cons] at hm
            simp only [List.pairwise_cons] at hp
            rcases hm with hm | hm
            · exact hne hm
            · exact ((hp.1 _ hm).pair ho (Array.getElem?_eq_getElem hlt)).2.2 ⟨e, he, hb, rfl⟩
        rw [hr] at this
        cases this
    · rw [mem_ready] at hi
      obtain ⟨h0, oi, hoi, hall⟩ := hi
      have his : i < ops.size := (Array.getElem?_eq_some_iff.1 hoi).1
      have hm := (hR i his).1 h0
      obtain ⟨R1, R2, rfl⟩ := List.append_of_mem hm
      have hpp := List.pairwise_append.1 hp
      have hap : ∀ x ∈ R1, ∀ oj, ops[x]? = some oj → (oj.apart ops oi = true ∧ clash ws oj oi = false ∧ opN oj.op = false ∧ (opN oi.op = true → opR ws oj.op ≠ 4) ∧ opF ws oj.op = false ∧ opF ws oi.op = false) ∨ freeOk ws ops oj oi = true := by
        intro x hx oj hoj
        rcases ((hpp.2.2 x hx i (by simp)).pair hoj hoi).1 with h | hreach
        · exact h
        · exfalso
          have h1 := reaches_listed hcl 5 i x oi hoi hall hreach
          have hxs : x < ops.size := (Array.getElem?_eq_some_iff.1 hoj).1
          have h2 := (hR x hxs).2 (by simp only [List.mem_append]; exact .inl hx)
          have hxl : x < listed.size := by omega
          simp only [Array.getD_eq_getD_getElem?, Array.getElem?_eq_getElem hxl, Option.getD_some] at h1 h2
          rw [h1] at h2
          cases h2
      have goOn : ∀ (env' : Env) (H1 : Heap), Vs P W f N Q ws ops k H1 (R1 ++ R2) env' → ∀ G' a' w', G.le G' → Inv W G' H1 w' → RepEnv G' a' env' → a'.tmps.size = N → a'.defers = a.defers →
          wpAny P .any ops (After P W f N Q k G0) n (listed.setIfInBounds i true) a' w' := by
        intro env' H1 hV' G' a' w' hG' hI' hE' hN' hd'
        have hmono : ∀ x, listed.getD x false = true → (listed.setIfInBounds i true).getD x false = true := fun x hx => by
          by_cases e : i = x
          · subst e; simp [Array.getD_eq_getD_getElem?, show i < listed.size by omega]
          · rw [getD_set_ne false e]; exact hx
        refine ih (R1 ++ R2) (listed.setIfInBounds i true) (by simp at hn ⊢; omega) (by simpa using hls) ?_ (fun j hj => ?_) (fun j o hj ho e he hb => ?_) _ H1 G' a' w' hV' (hG.trans hG') hI' hE' hN' (hd'.trans hd)
        · exact List.pairwise_append.2 ⟨hpp.1, (List.pairwise_cons.1 hpp.2.1).2, fun x hx y hy => hpp.2.2 x hx y (List.mem_cons_of_mem _ hy)⟩
        · have irr : ∀ x, ¬ Behind ws ops x x := fun x h => by unfold Behind behind at h; simp at h
          have hnodup : i ∉ R1 ++ R2 := by
            rw [List.mem_append]
            rintro (h | h)
            · exact irr _ (hpp.2.2 i h i (by simp))
            · exact irr _ ((List.pairwise_cons.1 hpp.2.1).1 i h)
          by_cases hij : i = j
          · subst hij
            have : (listed.setIfInBounds i true).getD i true = true := by simp [Array.getD_eq_getD_getElem?, show i < listed.size by omega]
            rw [this]
            exact ⟨fun h => absurd h (by simp), fun h => absurd h hnodup⟩
          · rw [getD_set_ne true hij, hR j hj]
            simp only [List.mem_append, List.mem_cons]
            constructor
            · rintro (h | h | h)
              · exact .inl h
              · exact absurd h.symm hij
              · exact .inr h
            · rintro (h | h)
              · exact .inl h
              · exact .inr (.inr h)
        · by_cases e' : i = j
          · subst e'
            rw [hoi] at ho
            cases ho
            exact hmono _ (hall e he hb)
          · rw [getD_set_ne false e'] at hj
            exact hmono _ (hcl j o hj ho e he hb)
      rcases vs_take hoi R1 env H hap hV with ⟨d, H1, hok, hV'⟩ | ⟨dl, C, r, mk, hok, hV'⟩ | ⟨Q', _, hg, _, hok, hV'⟩
      · exact wpOp_step hoi hI hE hN hok (goOn _ H1 hV')
      · exact wpOp_new hoi hI hE hN hok fun b c G' a' w' hC hb => goOn _ _ (hV' b c hC hb) G' a' w'
      · exact wpOp_gen hoi hI hE hN hg hok fun d H1 G' a' w' hq => goOn _ _ (hV' d H1 hq) G' a' w'

/-- A region that draws its order; we go by `π`. -/
theorem run_drawP {id : Nat} (π : List Nat) {l : List Oper} (hm : P.follows .mixedOrders = true) (hchk : drawOk ws ops π = true) (hl : π.map (ops[·]?) = l.map some) (h : RunD P W f N Q ws ops k H l env) :
    RunA P W f N Q (.code (.region id ops true) :: k) env H := by
  intro G a w b cs hI hE hN hd hfn hk
  have hok := drawOk_ok hchk
  have hlen : l.length = π.length := by have := congrArg List.length hl; simpa using this.symm
  have hV := vs_of_runD l π env H hlen (fun j i o hj hi => by
    have := congrArg (fun x : List (Option Oper) => x[j]?) hl
    simpa [hj, hi] using this) h
  have hcount : π.length = ops.size := by
    have hnd : π.Nodup := hok.pair.imp fun {x y} h e => by subst e; unfold Behind behind at h; simp at h
    have hperm : π.Perm (List.range ops.size) := (List.perm_ext_iff_of_nodup hnd List.nodup_range).2 fun i => by rw [List.mem_range]; exact (hok.all i).symm
    simpa using hperm.length_eq
  have hany := wpAny_vs hok (G0 := G) (k := k) (f := f) (Q := Q) ops.size π (Array.replicate ops.size false) hcount (by simp)
    hok.pair (fun i hi => by simp [hi, (hok.all i).1 hi]) (fun j o hj => by
      rw [Array.getD_eq_getD_getElem?, Array.getElem?_replicate] at hj
      split at hj <;> cases hj) env H G a w.drew hV (.refl G) hI.drew hE hN hd
  have hw := wp_region_any (id := id) hm hany
  obtain ⟨e, a', w', ⟨rfl, G1, env1, H1, hG1, hI1, hE1, hN1, hd1, hrun⟩, harr⟩ := hw b k cs
  obtain ⟨G', w2, d, H', v, fr, hS, hG, rest⟩ := hrun G1 a' w' b cs hI1 hE1 hN1 hd1 hfn hk
  exact ⟨G', w2, d, H', v, fr, Steps.trans harr hS, hG1.trans hG, rest⟩

theorem runD_ok {d : D} (hk : opW ws o.op = 0) (h : ∀ H', sameOn ws (opR ws o.op) H H' → OkAt P W ops H' o d env) (hr : RunD P W f N Q ws ops k H l (put N env o.dst d)) : RunD P W f N Q ws ops k H (o :: l) env :=
  .inl ⟨d, H, .inl ⟨hk, rfl, h⟩, hr⟩

theorem runD_op {d : D} (hk : opW ws o.op = 0) (hg : o.guard = none) (h : ∀ H', sameOn ws (opR ws o.op) H H' → OpOk P W o (ev env) H' fun d' H1 => d' = d ∧ H1 = H') (hr : RunD P W f N Q ws ops k H l (put N env o.dst d)) :
    RunD P W f N Q ws ops k H (o :: l) env :=
  runD_ok hk (fun H' hH => by unfold OkAt; rw [hg]; exact h H' hH) hr

theorem runD_guarded (hk : opW ws o.op = 0) {j : Nat} {g : Bool} (hg : o.guard = some (j, g)) {cs : List Bool} (ht : guardA ops env j g = some cs) {d : D}
    (h : ∀ H', sameOn ws (opR ws o.op) H H' → allT cs → OpOk P W o (fun x => stripL cs (ev env x)) H' fun d' H1 => d' = d ∧ H1 = H') (hr : RunD P W f N Q ws ops k H l (put N env o.dst (wrapL cs d))) :
    RunD P W f N Q ws ops k H (o :: l) env :=
  runD_ok hk (fun H' hH => by unfold OkAt; rw [hg]; exact ⟨cs, d, ht, rfl, h H' hH⟩) hr

/-- A load looks at blocks of its own sort. -/
def clsOk (ws : Cl) (ρ : Operand → D) : Op → Prop
  | .load t a => match ρ a with
    | .v (.pointer (some ⟨b, _, none⟩)) => ws.kb b = ws.oc (.load t a)
    | _ => True
  | _ => True
theorem Cl.plain.clsOk {ws : Cl} (h : ws.plain) (ρ : Operand → D) (op : Op) : clsOk ws ρ op := by
  cases op <;> first | exact trivial | skip
  simp only [Go.Sn.clsOk]
  split
  · rw [h.1, h.2]
  · exact trivial

/-- One that turns a block. -/
theorem runD_turn {d : D} {b : Nat} {r0 r : Res} (hk : Wr (opW ws o.op)) (hg : o.guard = none) (hb : H b = some r0) (h0 : clsR ws b r0 = opW ws o.op) (h1 : clsR ws b r = opW ws o.op)
    (h : ∀ H', sameOn ws (opR ws o.op) H H' → OpOk P W o (ev env) H' fun d' H2 => d' = d ∧ H2 = H'.set b r) (hr : RunD P W f N Q ws ops k (H.set b r) l (put N env o.dst d)) : RunD P W f N Q ws ops k H (o :: l) env :=
  .inl ⟨d, _, .inr (.inl ⟨hk, hg, b, r0, r, hb, h0, h1, rfl, h⟩), hr⟩

theorem loadA_same {t : TypeId} {H' : Heap} {x : D} {r : Prop × D} {m : Bool} (h : sameOn ws (cc m) H H') (hc : ∀ b o, x = .v (.pointer (some ⟨b, o, none⟩)) → ws.kb b = m) (hv : loadA P H t x = some r) : loadA P H' t x = some r := by
  unfold loadA at hv ⊢
  split at hv
  · rename_i b o
    split at hv
    · rename_i ds e hb
      have hm := (Wr.cc m).ne
      simp only [h.1 hm.1 hm.2.1 _ _ hb (by simp only [clsR, hc b o rfl])]
      exact hv
    · cases hv
  · exact hv
  · cases hv
theorem lenA_same {t : TypeId} {H' : Heap} {x : D} {r : Prop × D} (h : sameOn ws 2 H H') (hv : lenA P H t x = some r) : lenA P H' t x = some r := by
  unfold lenA at hv ⊢
  split at hv
  · exact hv
  · exact hv
  · exact hv
  · split at hv
    · exact hv
    · split at hv
      · rename_i es hb
        simp only [h.1 (by omega) (by omega) _ _ hb rfl]
        exact hv
      · cases hv
    · cases hv
  · cases hv

theorem valA_same {ρ : Operand → D} {op : Op} {r : Prop × D} {H' : Heap} (hv : valA P ρ H op = some r) (hc : clsOk ws ρ op) (h : sameOn ws (opR ws op) H H') : valA P ρ H' op = some r := by
  cases op <;> first | exact hv | skip
  case load t a => exact loadA_same h (fun b o e => by simpa only [clsOk, e] using hc) hv
  case call c =>
    obtain ⟨callee, args, ats⟩ := c
    cases callee with
    | builtin b =>
      cases b <;> first | exact hv | skip
      simp only [valA] at hv ⊢
      split at hv
      · exact lenA_same h hv
      · cases hv
    | _ => exact hv

theorem opOk_valK {ρ : Operand → D} {p : Prop} {r : D} (hv : valA P ρ H o.op = some (p, r)) (hp : p) (hc : clsOk ws ρ o.op) (H' : Heap) (hH : sameOn ws (opR ws o.op) H H') :
    OpOk P W o ρ H' fun d' H1 => d' = r ∧ H1 = H' := opOk_val (valA_same hv hc hH) hp ⟨rfl, rfl⟩

theorem valA_le {ρ : Operand → D} {op : Op} {r : Prop × D} (hv : valA P ρ H op = some r) : opW ws op = 0 := by
  cases op <;> simp only [opW] <;> first | (simp [valA] at hv; done) | skip
  rename_i c
  obtain ⟨callee, args, ats⟩ := c
  cases callee with
  | value x => simp [valA] at hv
  | _ => rfl

theorem runD_stepV {p : Prop} {env' : Env} (hc : ∀ ρ, clsOk ws ρ o.op) (h : stepV P N ops env H o = some (p, env')) (hp : p) (hr : RunD P W f N Q ws ops k H l env') : RunD P W f N Q ws ops k H (o :: l) env := by
  unfold stepV at h
  split at h
  · rename_i hg
    split at h
    · rename_i p' d hv
      simp at h
      obtain ⟨hp', rfl⟩ := h
      exact runD_op (valA_le hv) hg (fun H' hH => opOk_valK hv (by rw [hp']; exact hp) (hc _) H' hH) hr
    · cases h
  · rename_i j g hg
    split at h
    · rename_i cs ht
      split at h
      · rename_i p' d hv
        simp at h
        obtain ⟨hp', rfl⟩ := h
        rw [← hp'] at hp
        exact runD_guarded (valA_le hv) hg ht (fun H' hH ha => opOk_valK hv (hp ha) (hc _) H' hH) hr
      · cases h
    · cases h

/-- As far as no call is met. -/
def GoD (P : Program) (W : World) (f : FuncId) (N : Nat) (Q : D → Heap → Prop) (ws : Cl) (ops : Array Oper) (k : List Item) (H : Heap) : List Oper → Env → Prop
  | [], env => RunA P W f N Q k env H
  | o :: l, env => match stepV P N ops env H o with
    | some (p, env') => p ∧ GoD P W f N Q ws ops k H l env'
    | none => RunD P W f N Q ws ops k H (o :: l) env

theorem runD_go (hws : ws.plain) : ∀ (l : List Oper) (env : Env), GoD P W f N Q ws ops k H l env → RunD P W f N Q ws ops k H l env
  | [], env, h => h
  | o :: l, env, h => by
    unfold GoD at h
    split at h
    · rename_i p env' hs
      exact runD_stepV (fun ρ => hws.clsOk ρ o.op) hs h.1 (runD_go hws l env' h.2)
    · exact h

theorem run_drawGo (ws : Cl) (hws : ws.plain) {id : Nat} {l : List Oper} (hm : P.follows .mixedOrders = true) (hchk : drawOk ws l.toArray (List.range l.length) = true) (h : GoD P W f N Q ws l.toArray k H l env) :
    RunA P W f N Q (.code (.region id l.toArray true) :: k) env H :=
  run_drawP (List.range l.length) hm hchk (by
    apply List.ext_getElem (by simp)
    intro i h1 h2
    simp at h1 h2
    simp [h1]) (runD_go hws l env h)
/-- The operations in another order. -/
def permL (l : List Oper) : List Nat → List Oper
  | [] => []
  | i :: π => match l[i]? with
    | some o => o :: permL l π
    | none => permL l π
theorem permL_eq {l : List Oper} : ∀ {π : List Nat}, (∀ i ∈ π, i < l.length) → π.map (l.toArray[·]?) = (permL l π).map some
  | [], _ => rfl
  | i :: π, h => by
    have hi : i < l.length := h i (by simp)
    have ih := permL_eq (π := π) fun j hj => h j (by simp [hj])
    simp only [List.map_cons, permL, List.getElem?_eq_getElem hi, ih]
    simp [hi]
theorem run_drawGoP (ws : Cl) (hws : ws.plain) (π : List Nat) {id : Nat} {l : List Oper} (hm : P.follows .mixedOrders = true) (hchk : drawOk ws l.toArray π = true) (h : GoD P W f N Q ws l.toArray k H (permL l π) env) :
    RunA P W f N Q (.code (.region id l.toArray true) :: k) env H :=
  run_drawP π hm hchk (permL_eq fun i hi => by simpa using ((drawOk_ok hchk).all i).2 hi) (runD_go hws _ env h)

/-- .. where blocks are of two sorts. -/
def GoC (P : Program) (W : World) (f : FuncId) (N : Nat) (Q : D → Heap → Prop) (ws : Cl) (ops : Array Oper) (k : List Item) (H : Heap) : List Oper → Env → Prop
  | [], env => RunA P W f N Q k env H
  | o :: l, env => match o.guard, stepV P N ops env H o with
    | none, some (p, env') => (clsOk ws (ev env) o.op ∧ p) ∧ GoC P W f N Q ws ops k H l env'
    | _, _ => RunD P W f N Q ws ops k H (o :: l) env
theorem runD_goC : ∀ (l : List Oper) (env : Env), GoC P W f N Q ws ops k H l env → RunD P W f N Q ws ops k H l env
  | [], env, h => h
  | o :: l, env, h => by
    unfold GoC at h
    split at h
    · rename_i p env' hg hs
      have ih := runD_goC l env' h.2
      have hs' := hs
      unfold stepV at hs'
      rw [hg] at hs'
      simp only at hs'
      split at hs'
      · rename_i p' d hv
        simp at hs'
        obtain ⟨hp', rfl⟩ := hs'
        exact runD_op (valA_le hv) hg (fun H' hH => opOk_valK hv (by rw [hp']; exact h.1.2) h.1.1 H' hH) ih
      · cases hs'
    · exact h
theorem run_drawGoC (ws : Cl) {id : Nat} {l : List Oper} (hm : P.follows .mixedOrders = true) (hchk : drawOk ws l.toArray (List.range l.length) = true) (h : GoC P W f N Q ws l.toArray k H l env) :
    RunA P W f N Q (.code (.region id l.toArray true) :: k) env H :=
  run_drawP (List.range l.length) hm hchk (by
    apply List.ext_getElem (by simp)
    intro i h1 h2
    simp at h1 h2
    simp [h1]) (runD_goC l env h)

theorem run_drawGoQ (ws : Cl) (π : List Nat) {id : Nat} {l : List Oper} (hm : P.follows .mixedOrders = true) (hchk : drawOk ws l.toArray π = true) (h : GoC P W f N Q ws l.toArray k H (permL l π) env) :
    RunA P W f N Q (.code (.region id l.toArray true) :: k) env H :=
  run_drawP π hm hchk (permL_eq fun i hi => by simpa using ((drawOk_ok hchk).all i).2 hi) (runD_goC _ env h)

section lits
variable {dst : Option Tmp} {ty : TypeId} {pos : String} {aft : Array Edge}

theorem runD_callF {h : FuncId} {args : Array Operand} {ats : Array TypeId} (hk : Known P h) (hp : ws.ps h = false) {d : D}
    (hK : CallA P W h (args.toList.map (fun x => (ev env x).flat)) H fun d' H' => d' = d ∧ H' = H) (hr : RunD P W f N Q ws ops k H l (put N env dst d)) :
    RunD P W f N Q ws ops k H (⟨dst, .call ⟨.value (.func h), args, ats⟩, ty, pos, aft, none⟩ :: l) env := by
  obtain ⟨fn, h1, h2, h3⟩ := hk.known
  have hop : OpOk P W (⟨dst, .call ⟨.value (.func h), args, ats⟩, ty, pos, aft, none⟩ : Oper) (ev env) H fun d' H' => d' = d ∧ H' = H :=
    opOk_call (c := ⟨.value (.func h), args, ats⟩) (g := .func h) (first := #[]) (captured := #[]) rfl rfl rfl h1 h2 h3 (by simpa using hK)
  cases hw : ws.fs h with
  | false => exact runD_op (by simp [opW, hw]) rfl (fun H' hH => by rw [hH.2 (by simp [opR, hp])]; exact hop) hr
  | true =>
    cases hf : ws.fe h with
    | false => exact .inl ⟨d, H, .inr (.inr ⟨by simp [opW, hw], by simp [opF, hf], rfl, hop⟩), hr⟩
    | true => exact .inr (.inr ⟨_, by simp [opF, hw, hf], rfl, fun d' H1 hq => (by rw [hq.2]; exact sameOn.refl _ _ _), hop, fun d' H1 hq => (by rw [hq.1, hq.2]; exact hr)⟩)

/-- One whose call stands alone. -/
theorem runD_callX {h : FuncId} {args : Array Operand} {ats : Array TypeId} (hk : Known P h) (hf : (ws.fs h && ws.fe h) = true) {Q' : D → Heap → Prop} (hfr : ∀ d H1, Q' d H1 → sameOn ws 5 H H1)
    (hK : CallA P W h (args.toList.map (fun x => (ev env x).flat)) H Q') (hr : ∀ d H1, Q' d H1 → RunD P W f N Q ws ops k H1 l (put N env dst d)) :
    RunD P W f N Q ws ops k H (⟨dst, .call ⟨.value (.func h), args, ats⟩, ty, pos, aft, none⟩ :: l) env := by
  obtain ⟨fn, h1, h2, h3⟩ := hk.known
  exact .inr (.inr ⟨Q', by simp only [opF]; exact hf, rfl, hfr, opOk_call (c := ⟨.value (.func h), args, ats⟩) (g := .func h) (first := #[]) (captured := #[]) rfl rfl rfl h1 h2 h3 (by simpa using hK), hr⟩)
/-- One that looks at nothing of ours. -/
theorem runD_callP {h : FuncId} {args : Array Operand} {ats : Array TypeId} (hk : Known P h) (hw : ws.fs h = false) {d : D}
    (hK : ∀ H', CallA P W h (args.toList.map (fun x => (ev env x).flat)) H' fun d' H1 => d' = d ∧ H1 = H') (hr : RunD P W f N Q ws ops k H l (put N env dst d)) :
    RunD P W f N Q ws ops k H (⟨dst, .call ⟨.value (.func h), args, ats⟩, ty, pos, aft, none⟩ :: l) env := by
  obtain ⟨fn, h1, h2, h3⟩ := hk.known
  exact runD_op (by simp [opW, hw]) rfl (fun H' hH => opOk_call (c := ⟨.value (.func h), args, ats⟩) (g := .func h) (first := #[]) (captured := #[]) rfl rfl rfl h1 h2 h3 (by simpa using hK H')) hr

/-- One that turns the heap. -/
theorem runD_callH {h : FuncId} {args : Array Operand} {ats : Array TypeId} (hk : Known P h) (hw : ws.fs h = true) (hf : ws.fe h = false) {d : D} {H1 : Heap}
    (hK : CallA P W h (args.toList.map (fun x => (ev env x).flat)) H fun d' H' => d' = d ∧ H' = H1) (hr : RunD P W f N Q ws ops k H1 l (put N env dst d)) :
    RunD P W f N Q ws ops k H (⟨dst, .call ⟨.value (.func h), args, ats⟩, ty, pos, aft, none⟩ :: l) env := by
  obtain ⟨fn, h1, h2, h3⟩ := hk.known
  exact .inl ⟨d, H1, .inr (.inr ⟨by simp [opW, hw], by simp [opF, hf], rfl, opOk_call (c := ⟨.value (.func h), args, ats⟩) (g := .func h) (first := #[]) (captured := #[]) rfl rfl rfl h1 h2 h3 (by simpa using hK)⟩), hr⟩

theorem runD_callFG {h : FuncId} {args : Array Operand} {ats : Array TypeId} {j : Nat} {g : Bool} {cs : List Bool} (hk : Known P h) (hw : ws.fs h = false ∧ ws.ps h = false) (ht : guardA ops env j g = some cs) {d : D}
    (hK : allT cs → CallA P W h (args.toList.map (fun x => (stripL cs (ev env x)).flat)) H fun d' H' => d' = d ∧ H' = H)
    (hr : RunD P W f N Q ws ops k H l (put N env dst (wrapL cs d))) :
    RunD P W f N Q ws ops k H (⟨dst, .call ⟨.value (.func h), args, ats⟩, ty, pos, aft, some (j, g)⟩ :: l) env := by
  obtain ⟨fn, h1, h2, h3⟩ := hk.known
  refine runD_guarded (by simp [opW, hw.1]) rfl ht (fun H' hH hc => ?_) hr
  rw [hH.2 (by simp [opR, hw.2])]
  refine opOk_call (c := ⟨.value (.func h), args, ats⟩) (g := .func h) (first := #[]) (captured := #[]) rfl rfl ?_ h1 h2 h3 (by simpa using hK hc)
  have : ∀ l : List Bool, stripL l (ev env (.func h)) = .v (.func (.func h) #[] #[]) := by
    intro l
    induction l with
    | nil => rfl
    | cons c l ih => exact ih
  exact this cs

theorem runD_buildSlice {t e n sz : Nat} {parts : Array (Nat × Operand)} {z : List D} (hu : P.underlying t = some (.slice e))
    (hsz : szT P e = some sz) (hz : zeroT P e = some z) (hzl : z.length = sz) (hn : parts.toList.length = n) (hfull : fullParts (partsA (ev env) parts.toList) 0 = true)
    (hs : (partsA (ev env) parts.toList).all (fun x => x.2.cells.length == sz && x.2.stor) = true) (hle : n * sz ≤ 16777216)
    (h : RunD P W f N Q ws ops k H l (put N env dst (if n = 0 then .nil else .list ((partsA (ev env) parts.toList).map fun x => x.2.cells.map D.flat)))) :
    RunD P W f N Q ws ops k H (⟨dst, .buildSlice t n parts, ty, pos, aft, none⟩ :: l) env :=
  runD_op (by simp [opW]) rfl (fun H' _ => opOk_buildSlice rfl hu hsz hz hzl hn hfull (by simpa using hs) hle ⟨rfl, rfl⟩) h
theorem runD_buildSliceG {t e n sz : Nat} {parts : Array (Nat × Operand)} {z : List D} {j : Nat} {g : Bool} {cs : List Bool} (ht : guardA ops env j g = some cs) (hu : P.underlying t = some (.slice e))
    (hsz : szT P e = some sz) (hz : zeroT P e = some z) (hzl : z.length = sz) (hn : parts.toList.length = n) (hfull : fullParts (partsA (fun x => stripL cs (ev env x)) parts.toList) 0 = true)
    (hs : (partsA (fun x => stripL cs (ev env x)) parts.toList).all (fun x => x.2.cells.length == sz && x.2.stor) = true) (hle : n * sz ≤ 16777216)
    (h : RunD P W f N Q ws ops k H l (put N env dst (wrapL cs (if n = 0 then .nil else .list ((partsA (fun x => stripL cs (ev env x)) parts.toList).map fun x => x.2.cells.map D.flat))))) :
    RunD P W f N Q ws ops k H (⟨dst, .buildSlice t n parts, ty, pos, aft, some (j, g)⟩ :: l) env :=
  runD_guarded (by simp [opW]) rfl ht (fun H' _ _ => opOk_buildSlice rfl hu hsz hz hzl hn hfull (by simpa using hs) hle ⟨rfl, rfl⟩) h

/-- A call of a function value that the text has made. -/
theorem runO_callV {t : Tmp} {h : FuncId} {captured : Array Value} {args : Array Operand} {ats : Array TypeId} (hv : ev env (.tmp t) = .v (.func (.func h) #[] captured)) (hk : Known P h)
    (hK : CallA P W h (args.toList.map (fun x => (ev env x).flat) ++ captured.toList.map .v) H fun d H' => RunO P W f N Q ops l k (put N env dst d) H') :
    RunO P W f N Q ops (⟨dst, .call ⟨.value (.tmp t), args, ats⟩, ty, pos, aft, none⟩ :: l) k env H :=
  runO_call (first := #[]) rfl rfl rfl hv hk (by simpa using hK)

theorem runD_callVG {t : Tmp} {h : FuncId} {captured : Array Value} {args : Array Operand} {ats : Array TypeId} {j : Nat} {g : Bool} {cs : List Bool} (ht : guardA ops env j g = some cs)
    (hv : stripL cs (ev env (.tmp t)) = .v (.func (.func h) #[] captured)) (hk : Known P h) (hw : ws.dv = false) {d : D}
    (hK : allT cs → CallA P W h (args.toList.map (fun x => (stripL cs (ev env x)).flat) ++ captured.toList.map .v) H fun d' H' => d' = d ∧ H' = H)
    (hr : RunD P W f N Q ws ops k H l (put N env dst (wrapL cs d))) :
    RunD P W f N Q ws ops k H (⟨dst, .call ⟨.value (.tmp t), args, ats⟩, ty, pos, aft, some (j, g)⟩ :: l) env := by
  obtain ⟨fn, h1, h2, h3⟩ := hk.known
  exact runD_guarded (by simp [opW, hw]) rfl ht (fun H' hH hc => by rw [hH.2 (by simp [opR])]; exact opOk_call (c := ⟨.value (.tmp t), args, ats⟩) (g := .tmp t) (first := #[]) rfl rfl hv h1 h2 h3 (by simpa using hK hc)) hr
theorem runD_callV {t : Tmp} {h : FuncId} {captured : Array Value} {args : Array Operand} {ats : Array TypeId}
    (hv : ev env (.tmp t) = .v (.func (.func h) #[] captured)) (hk : Known P h) {d : D}
    (hK : CallA P W h (args.toList.map (fun x => (ev env x).flat) ++ captured.toList.map .v) H fun d' H' => d' = d ∧ H' = H)
    (hr : RunD P W f N Q ws ops k H l (put N env dst d)) :
    RunD P W f N Q ws ops k H (⟨dst, .call ⟨.value (.tmp t), args, ats⟩, ty, pos, aft, none⟩ :: l) env := by
  obtain ⟨fn, h1, h2, h3⟩ := hk.known
  have hop : OpOk P W (⟨dst, .call ⟨.value (.tmp t), args, ats⟩, ty, pos, aft, none⟩ : Oper) (ev env) H fun d' H' => d' = d ∧ H' = H :=
    opOk_call (c := ⟨.value (.tmp t), args, ats⟩) (g := .tmp t) (first := #[]) rfl rfl hv h1 h2 h3 (by simpa using hK)
  cases hw : ws.dv with
  | false => exact runD_op (by simp [opW, hw]) rfl (fun H' hH => by rw [hH.2 (by simp [opR])]; exact hop) hr
  | true => exact .inl ⟨d, H, .inr (.inr ⟨by simp [opW, hw], rfl, rfl, hop⟩), hr⟩
/-- One of a function value that turns the heap. -/
theorem runD_callVH {t : Tmp} {h : FuncId} {captured : Array Value} {args : Array Operand} {ats : Array TypeId}
    (hv : ev env (.tmp t) = .v (.func (.func h) #[] captured)) (hk : Known P h) (hw : ws.dv = true) {d : D} {H1 : Heap}
    (hK : CallA P W h (args.toList.map (fun x => (ev env x).flat) ++ captured.toList.map .v) H fun d' H' => d' = d ∧ H' = H1)
    (hr : RunD P W f N Q ws ops k H1 l (put N env dst d)) :
    RunD P W f N Q ws ops k H (⟨dst, .call ⟨.value (.tmp t), args, ats⟩, ty, pos, aft, none⟩ :: l) env := by
  obtain ⟨fn, h1, h2, h3⟩ := hk.known
  exact .inl ⟨d, H1, .inr (.inr ⟨by simp [opW, hw], rfl, rfl, opOk_call (c := ⟨.value (.tmp t), args, ats⟩) (g := .tmp t) (first := #[]) rfl rfl hv h1 h2 h3 (by simpa using hK)⟩), hr⟩
/-- One whose guard does not hold: whatever it would do. -/
theorem runD_skipF {op : Op} {j : Nat} {g : Bool} {cs : List Bool} (hk : opW ws op = 0) (ht : guardA ops env j g = some cs) (hF : cs.all id = false)
    (h : RunD P W f N Q ws ops k H l (put N env dst (wrapL cs (.v (.bool false))))) : RunD P W f N Q ws ops k H (⟨dst, op, ty, pos, aft, some (j, g)⟩ :: l) env :=
  runD_guarded hk rfl ht (fun H' _ ha => absurd ha (by rw [allT_all]; rw [hF]; simp)) h
theorem runO_skipF {op : Op} {j : Nat} {g : Bool} {cs : List Bool} (ht : guardA ops env j g = some cs) (hF : cs.all id = false)
    (h : RunO P W f N Q ops l k (put N env dst (wrapL cs (.v (.bool false)))) H) : RunO P W f N Q ops (⟨dst, op, ty, pos, aft, some (j, g)⟩ :: l) k env H :=
  runO_guarded rfl ht (fun ha => absurd ha (by rw [allT_all]; rw [hF]; simp)) h
theorem runD_new {o : Oper} {r : Res} {mk : Nat → D} (ho : opN o.op = true) (hg : o.guard = none) (hop : ∀ (H' : Heap) (K : D → Heap → Prop), (∀ b, H' b = none → K (mk b) (H'.set b r)) → OpOk P W o (ev env) H' K)
    (h : ∀ b, H b = none → RunD P W f N Q ws ops k (H.set b r) l (put N env o.dst (mk b))) : RunD P W f N Q ws ops k H (o :: l) env :=
  .inr (.inl ⟨none, fun _ => True, fun _ => r, fun b _ => mk b, ⟨ho, hg, (fun b e => by cases e), fun H' _ K hK => hop H' K fun b hb => hK b 0 trivial hb⟩, fun b c _ hb => h b hb⟩)
theorem runD_box {t : TypeId} {x : Operand} (hs : (ev env x).stor = true)
    (h : ∀ b, H b = none → RunD P W f N Q ws ops k (H.set b (.cells (ev env x).cells t)) l (put N env dst (.v (.pointer (some ⟨b, 0, none⟩))))) :
    RunD P W f N Q ws ops k H (⟨dst, .box t x, ty, pos, aft, none⟩ :: l) env := runD_new (mk := fun b => .v (.pointer (some ⟨b, 0, none⟩))) rfl rfl (fun H' K hK => opOk_box rfl hs hK) h
theorem runD_alloc {t : TypeId} {z : List D} (hz : zeroT P t = some z)
    (h : ∀ b, H b = none → RunD P W f N Q ws ops k (H.set b (.cells z t)) l (put N env dst (.v (.pointer (some ⟨b, 0, none⟩))))) :
    RunD P W f N Q ws ops k H (⟨dst, .alloc t, ty, pos, aft, none⟩ :: l) env := runD_new (mk := fun b => .v (.pointer (some ⟨b, 0, none⟩))) rfl rfl (fun H' K hK => opOk_alloc rfl hz hK) h
theorem runD_make_cells {t e sz by_ : Nat} {z : List D} {x y : Operand} {k1 k2 : IntKind} {c : Nat}
    (hu : P.underlying t = some (.slice e)) (hsz : szT P e = some sz) (hby : bytesT P e = some by_) (hz : zeroT P e = some z) (hzl : z.length = sz) (hpos : 0 < sz) (hx : ev env x = .v (.int k1 (c : Int))) (hy : ev env y = .v (.int k2 (c : Int)))
    (hlen : c * by_ ≤ 140737488355328) (hlen2 : c ≤ maxLen) (h : ∀ b, H b = none → RunD P W f N Q ws ops k (H.set b (.cells (List.replicate c z).flatten e)) l (put N env dst (.v (.slice (some ⟨b, 0, none⟩) c c)))) :
    RunD P W f N Q ws ops k H (⟨dst, .makeSlice t x y, ty, pos, aft, none⟩ :: l) env :=
  runD_new (mk := fun b => .v (.slice (some ⟨b, 0, none⟩) c c)) rfl rfl (fun H' K hK => opOk_make_cells rfl hu hsz hby hz hzl hpos hx hy hlen hlen2 hK) h
theorem runD_append_nil0 {s x : Operand} {t e sz by_ : Nat} {z : List D} (hu : P.underlying t = some (.slice e)) (hsz : szT P e = some sz) (hby : bytesT P e = some by_) (hz : zeroT P e = some z) (hzl : z.length = sz) (hs : ev env s = .nil) (hx : (ev env x).elems = some [])
    (h : RunD P W f N Q ws ops k H l (put N env dst .nil)) : RunD P W f N Q ws ops k H (⟨dst, .call ⟨.builtin .append, #[s, x], #[t, t]⟩, ty, pos, aft, none⟩ :: l) env :=
  runD_op rfl rfl (fun H' _ => opOk_append_nil rfl hu hsz hby hz hzl hs hx (by simp) (by simp) (by simp) (fun _ => ⟨rfl, rfl⟩) (fun h => absurd rfl h)) h
theorem runD_append_nil {s x : Operand} {t e sz by_ : Nat} {z : List D} {ys : List (List D)} (hu : P.underlying t = some (.slice e)) (hsz : szT P e = some sz) (hby : bytesT P e = some by_) (hz : zeroT P e = some z) (hzl : z.length = sz) (hs : ev env s = .nil) (hx : (ev env x).elems = some ys)
    (hsy : ∀ ds ∈ ys, ds.length = sz) (hlen : ys.length * by_ ≤ 140737488355328) (hlen2 : ys.length ≤ maxLen) (hne : ys ≠ [])
    (h : ∀ b cap, H b = none → RunD P W f N Q ws ops k (H.set b (.grow e ys.length cap sz)) l (put N env dst (.own b cap ys))) :
    RunD P W f N Q ws ops k H (⟨dst, .call ⟨.builtin .append, #[s, x], #[t, t]⟩, ty, pos, aft, none⟩ :: l) env :=
  .inr <| .inl ⟨none, fun _ => True, fun c => .grow e ys.length c sz, fun b c => .own b c ys, ⟨rfl, rfl, (fun b e => by cases e), fun H' _ K hK =>
    opOk_append_nil rfl hu hsz hby hz hzl hs hx hsy hlen hlen2 (fun e => absurd e hne) fun _ b cap hb => hK b cap trivial hb⟩, fun b c _ hb => h b c hb⟩
theorem runD_append_own {s x : Operand} {t e sz by_ b cap : Nat} {z : List D} {xs ys : List (List D)} (hu : P.underlying t = some (.slice e)) (hsz : szT P e = some sz) (hby : bytesT P e = some by_) (hz : zeroT P e = some z) (hzl : z.length = sz) (hs : ev env s = .own b cap xs) (hx : (ev env x).elems = some ys)
    (hb : H b = some (.grow e xs.length cap sz)) (hsx : ∀ ds ∈ xs, ds.length = sz) (hsy : ∀ ds ∈ ys, ds.length = sz) (hlen : (xs.length + ys.length) * by_ ≤ 140737488355328) (hlen2 : xs.length + ys.length ≤ maxLen)
    (h : ∀ b' cap', (H.del b) b' = none → RunD P W f N Q ws ops k ((H.del b).set b' (.grow e (xs.length + ys.length) cap' sz)) l (put N env dst (.own b' cap' (xs ++ ys)))) :
    RunD P W f N Q ws ops k H (⟨dst, .call ⟨.builtin .append, #[s, x], #[t, t]⟩, ty, pos, aft, none⟩ :: l) env :=
  .inr <| .inl ⟨some b, fun _ => True, fun c => .grow e (xs.length + ys.length) c sz, fun b c => .own b c (xs ++ ys), ⟨rfl, rfl, (fun b' e => by cases e; exact ⟨_, hb, rfl⟩), fun H' hH K hK =>
    opOk_append_own rfl hu hsz hby hz hzl hs hx ((hH b rfl).trans hb) hsx hsy hlen hlen2 fun b' cap' hb' => hK b' cap' trivial hb'⟩, fun b' c _ hb' => h b' c hb'⟩
theorem runD_coll {s x : Operand} {t e sz by_ : Nat} {z : List D} {H0 : Heap} {xs ys : List (List D)}
    (hu : P.underlying t = some (.slice e)) (hsz : szT P e = some sz) (hby : bytesT P e = some by_) (hz : zeroT P e = some z) (hzl : z.length = sz) (hc : Coll H0 e sz xs (ev env s) H) (hx : (ev env x).elems = some ys)
    (hsx : ∀ ds ∈ xs, ds.length = sz) (hsy : ∀ ds ∈ ys, ds.length = sz) (hlen : (xs.length + ys.length) * by_ ≤ 140737488355328) (hlen2 : xs.length + ys.length ≤ maxLen)
    (h : ∀ d H', Coll H0 e sz (xs ++ ys) d H' → RunD P W f N Q ws ops k H' l (put N env dst d)) :
    RunD P W f N Q ws ops k H (⟨dst, .call ⟨.builtin .append, #[s, x], #[t, t]⟩, ty, pos, aft, none⟩ :: l) env := by
  generalize hs : ev env s = d at hc
  cases hc with
  | none h0 =>
    subst h0
    simp only [List.length_nil, Nat.zero_add] at hlen hlen2
    by_cases hne : ys = []
    · subst hne
      exact runD_append_nil0 hu hsz hby hz hzl hs hx (h _ _ (.none (by simp)))
    · exact runD_append_nil hu hsz hby hz hzl hs hx hsy hlen hlen2 hne fun b cap hb => h _ _ (by simpa using Coll.some (xs := ys) b cap hb)
  | some b cap hb =>
    have hdel : (H0.set b (.grow e xs.length cap sz)).del b = H0 := by
      funext c
      simp only [Heap.del, Heap.set]
      split
      · rename_i e; subst e; exact hb.symm
      · rfl
    refine runD_append_own hu hsz hby hz hzl hs hx (by simp [Heap.set]) hsx hsy hlen hlen2 fun b' cap' hb' => ?_
    rw [hdel] at hb' ⊢
    exact h _ _ (by simpa using Coll.some (xs := xs ++ ys) b' cap' hb')
theorem runD_store {t n : Nat} {p x : Operand} {b off : Nat} {ds : List D} {e : TypeId} (hsz : szT P t = some n)
    (hp : ev env p = .v (.pointer (some ⟨b, off, none⟩))) (hb : H b = some (.cells ds e)) (hs : (ev env x).stor = true) (hlen : (ev env x).cells.length = n) (hle : off + n ≤ ds.length) (hc : ws.kb b = ws.oc (.store t p x))
    (h : RunD P W f N Q ws ops k (H.set b (.cells (ds.take off ++ (ev env x).cells ++ ds.drop (off + n)) e)) l (put N env dst (.v undef))) :
    RunD P W f N Q ws ops k H (⟨dst, .store t p x, ty, pos, aft, none⟩ :: l) env :=
  runD_turn (Wr.cc _) rfl hb (by simp only [clsR, opW, hc]) (by simp only [clsR, opW, hc]) (fun H' hH => opOk_store rfl hsz hp (hH.1 (Wr.cc _).ne.1 (Wr.cc _).ne.2.1 _ _ hb (by simp only [clsR, opR, hc])) hs hlen hle ⟨rfl, rfl⟩) h
end lits
end
/-- Stores go to the block `p`, loads elsewhere. -/
def Cl.st (p : Nat) : Cl := ⟨fun _ => false, fun op => match op with | .store _ _ _ => true | _ => false, fun b => decide (b = p), false, fun _ => false, fun _ => false⟩
/-- Loads of the type `T` are of the block `p`, all else is elsewhere. -/
def Cl.ty (T p : Nat) : Cl := ⟨fun _ => false, fun op => match op with | .load t _ => decide (t = T) | _ => false, fun b => decide (b = p), false, fun _ => false, fun _ => false⟩
theorem Cl.st_kb (p b : Nat) : (Cl.st p).kb b = decide (b = p) := rfl
theorem Cl.st_load (p t : Nat) (a : Operand) : (Cl.st p).oc (.load t a) = false := rfl
theorem Cl.st_store (p t : Nat) (a x : Operand) : (Cl.st p).oc (.store t a x) = true := rfl
theorem Cl.ty_kb (T p b : Nat) : (Cl.ty T p).kb b = decide (b = p) := rfl
theorem Cl.ty_load (T p t : Nat) (a : Operand) : (Cl.ty T p).oc (.load t a) = decide (t = T) := rfl
theorem Cl.ty_store (T p t : Nat) (a x : Operand) : (Cl.ty T p).oc (.store t a x) = false := rfl
theorem Cl.dyn_kb (b : Nat) : Cl.dyn.kb b = false := rfl
theorem Cl.dyn_oc (op : Op) : Cl.dyn.oc op = false := rfl
/-- One function's calls look at nothing of ours. -/
def Cl.pure (g : Nat) : Cl := ⟨fun _ => false, fun _ => false, fun _ => false, false, fun f => f == g, fun _ => false⟩
/-- One function's calls stand alone. -/
def Cl.alone (g : Nat) : Cl := ⟨fun f => f == g, fun _ => false, fun _ => false, false, fun _ => false, fun f => f == g⟩
/-- Those functions' calls stand alone, but loads are of the block `p`, which they keep. -/
def Cl.own (gs : List Nat) (p : Nat) : Cl := ⟨fun f => gs.contains f, fun op => match op with | .load _ _ => true | _ => false, fun b => decide (b = p), false, fun _ => false, fun f => gs.contains f⟩
theorem Cl.own_kb (gs : List Nat) (p b : Nat) : (Cl.own gs p).kb b = decide (b = p) := rfl
theorem Cl.own_load (gs : List Nat) (p t : Nat) (a : Operand) : (Cl.own gs p).oc (.load t a) = true := rfl
theorem Cl.own_store (gs : List Nat) (p t : Nat) (a x : Operand) : (Cl.own gs p).oc (.store t a x) = false := rfl
theorem Cl.own_fr {gs : List Nat} {p : Nat} {H H1 : Heap} (h : ∀ r, H p = some r → H1 p = some r) : sameOn (Cl.own gs p) 5 H H1 := by
  refine ⟨fun _ _ b r hb hc => ?_, fun e => by omega⟩
  cases r with
  | cells ds e =>
    by_cases e2 : b = p
    · rw [e2] at hb ⊢
      exact h _ hb
    · simp [clsR, Cl.own_kb, cc, e2] at hc
  | grow e n cap sz => simp [clsR] at hc
  | map es => simp [clsR] at hc
  | iter s pos => simp [clsR] at hc
theorem Cl.alone_fr (g : Nat) (H H1 : Heap) : sameOn (Cl.alone g) 5 H H1 := by
  refine ⟨fun _ _ b r hb hc => ?_, fun e => by omega⟩
  exfalso
  cases r with
  | cells ds e => simp only [clsR] at hc; have : (Cl.alone g).kb b = false := rfl; rw [this] at hc; simp [cc] at hc
  | grow e n cap sz => simp [clsR] at hc
  | map es => simp [clsR] at hc
  | iter s pos => simp [clsR] at hc
theorem Cl.alone_kb (g b : Nat) : (Cl.alone g).kb b = false := rfl
theorem Cl.alone_oc (g : Nat) (op : Op) : (Cl.alone g).oc op = false := rfl
theorem Cl.pure_kb (g b : Nat) : (Cl.pure g).kb b = false := rfl
theorem Cl.pure_oc (g : Nat) (op : Op) : (Cl.pure g).oc op = false := rfl
attribute [go_sem] Cl.own_kb Cl.own_load Cl.own_store Cl.alone_kb Cl.alone_oc Cl.pure_kb Cl.pure_oc Cl.dyn_kb Cl.dyn_oc GoD GoC clsOk permL Cl.st_kb Cl.st_load Cl.st_store Cl.ty_kb Cl.ty_load Cl.ty_store
end Go.Sn
namespace Go.Sn
open Go Go.RowKit
set_option linter.unusedVariables false
set_option linter.unusedSimpArgs false

theorem Heap.set_self {H : Heap} {b : Nat} {r : Res} (h : H b = some r) : H.set b r = H := by
  funext k
  rw [Heap.set_at]
  split
  · rename_i e; subst e; exact h.symm
  · rfl
theorem Heap.sub_congr {H K : Heap} {b : Nat} {r : Res} (h : H.sub K) : (H.set b r).sub (K.set b r) := by
  intro k s hk
  rw [Heap.set_at] at hk ⊢
  split
  · rename_i e; rw [if_pos e] at hk; exact hk
  · rename_i e; rw [if_neg e] at hk; exact h k s hk

section
variable {P : Program} {W : World} {f : FuncId} {N : Nat} {Q : D → Heap → Prop} {ws : Cl} {ops : Array Oper} {l : List Oper} {k : List Item} {env : Env} {H : Heap} {dst : Option Tmp} {ty : TypeId} {pos : String} {aft : Array Edge}

theorem runO_env {env' : Env} (hs : ∀ G x k, Rep G x (env k) → Rep G x (env' k)) (h : RunO P W f N Q ops l k env' H) : RunO P W f N Q ops l k env H :=
  fun is his G a w hI hE hN hd => h is his G a w hI (fun k => hs G _ k (hE k)) hN hd

theorem put_flat_rep {G : IG} {d : D} {x : Value} {k : Nat} (h : Rep G x ((put N env dst d) k)) : Rep G x ((put N env dst d.flat) k) := by
  cases dst with
  | none => exact h
  | some t =>
    simp only [put] at h ⊢
    split
    · rename_i hN
      rw [if_pos hN] at h
      simp only [upd] at h ⊢
      split
      · rename_i e; rw [if_pos e] at h; exact h.flat
      · rename_i e; rw [if_neg e] at h; exact h
    · rename_i hN; rw [if_neg hN] at h; exact h

theorem runO_collL {s x : Operand} {t e sz by_ : Nat} {z : List D} {H0 : Heap} {xs ys : List (List D)}
    (hu : P.underlying t = some (.slice e)) (hsz : szT P e = some sz) (hby : bytesT P e = some by_) (hz : zeroT P e = some z) (hzl : z.length = sz) (hc : Coll H0 e sz xs (ev env s) H) (hx : (ev env x).elems = some ys)
    (hsx : ∀ ds ∈ xs, ds.length = sz) (hsy : ∀ ds ∈ ys, ds.length = sz) (hlen : (xs.length + ys.length) * by_ ≤ 140737488355328) (hlen2 : xs.length + ys.length ≤ maxLen)
    (h : RunO P W f N Q ops l k (put N env dst (.list (xs ++ ys))) H0) :
    RunO P W f N Q ops (⟨dst, .call ⟨.builtin .append, #[s, x], #[t, t]⟩, ty, pos, aft, none⟩ :: l) k env H :=
  runO_coll hu hsz hby hz hzl hc hx hsx hsy hlen hlen2 fun d H' hc' => runO_drop hc'.sub (runO_env (env' := put N env dst d.flat) (fun G x k hr => put_flat_rep hr) (by rw [hc'.flat]; exact h))

/-- Cells that nobody will write again. -/
theorem Inv.freeze {W : World} {G : IG} {H : Heap} {w : World} (hI : Inv W G H w) {b : Nat} {ds : List D} {e : TypeId} (hb : H b = some (.cells ds e)) :
    ∃ G', G.le G' ∧ Inv W G' (H.del b) w ∧ CellsAt G' b 0 ds := by
  obtain ⟨hWb, cs, hcs, hr, h1, hg⟩ := hI.res b _ hb
  have hle : G.le (G.add b 0 cs) := IG.le_add G b 0 cs fun p _ => hg p
  have hdel : Inv W G (H.del b) w := hI.weaken fun c r hc => by rw [Heap.del_at] at hc; split at hc; cases hc; exact hc
  refine ⟨G.add b 0 cs, hle, hdel.grow (fun k c hc => ?_) h1 (fun p _ => hg p) (fun r hr => ?_), fun k d hd => ?_⟩
  · rw [cell_of_row _ _ _ _ e (0, 0) hcs]
    simpa using hc
  · rw [Heap.del_at, if_pos rfl] at hr; cases hr
  · obtain ⟨c, hc, hrc⟩ := hr.get hd
    exact ⟨c, IG.add_at G _ 0 cs hc, hrc.mono hle⟩

theorem run_freeze {t : List Item} {j b n c sz : Nat} {e : TypeId} {ds : List D} {xs : List (List D)} (hj : env j = .v (.slice (some ⟨b, 0, none⟩) n c)) (hb : H b = some (.cells ds e)) (hx : xs.flatten = ds) (hn : xs.length = n)
    (hc : n ≤ c) (hl : ∀ x ∈ xs, x.length = sz) (h : RunA P W f N Q t (upd env j (.list xs)) (H.del b)) : RunA P W f N Q t env H := by
  subst hx
  intro G a w fr cs hI hE hN hd hfn hk
  obtain ⟨G', hle, hI', hcells⟩ := hI.freeze hb
  have hE' : RepEnv G' a (upd env j (.list xs)) := by
    intro k
    rw [upd_at]
    split
    · rename_i hkj
      have := hE j
      rw [hj] at this
      rw [hkj, this.inv_v]
      exact Rep.mkList hn hc hl hcells
    · exact (hE k).mono hle
  obtain ⟨G1, w', d, H', v, fr', hS, hG, rest⟩ := h G' a w fr cs hI' hE' hN hd hfn hk
  exact ⟨G1, w', d, H', v, fr', hS, hle.trans hG, rest⟩

theorem run_freezeP {t : List Item} {j b : Nat} {e : TypeId} {ds : List D} (hj : env j = .v (.pointer (some ⟨b, 0, none⟩))) (hb : H b = some (.cells ds e))
    (h : RunA P W f N Q t (upd env j (.ip ds)) (H.del b)) : RunA P W f N Q t env H := by
  intro G a w fr cs hI hE hN hd hfn hk
  obtain ⟨G', hle, hI', hcells⟩ := hI.freeze hb
  have hE' : RepEnv G' a (upd env j (.ip ds)) := by
    intro k
    rw [upd_at]
    split
    · rename_i hkj
      have := hE j
      rw [hj] at this
      rw [hkj, this.inv_v]
      exact Rep.mkIp hcells
    · exact (hE k).mono hle
  obtain ⟨G1, w', d, H', v, fr', hS, hG, rest⟩ := h G' a w fr cs hI' hE' hN hd hfn hk
  exact ⟨G1, w', d, H', v, fr', hS, hle.trans hG, rest⟩

/-- A slot's slice, only read from here on. -/
theorem run_flat {t : List Item} (j : Nat) (h : RunA P W f N Q t (upd env j (env j).flat) H) : RunA P W f N Q t env H :=
  run_env (env' := upd env j (env j).flat) (fun G x i hr => by
    rw [upd_at]
    split
    · rename_i e; subst e; exact hr.flat
    · exact hr) h
/-- A gathered list, only read from here on. -/
theorem run_coll {t : List Item} {j e sz : Nat} {H0 : Heap} {xs : List (List D)} (hc : Coll H0 e sz xs (env j) H) (h : RunA P W f N Q t (upd env j (.list xs)) H0) : RunA P W f N Q t env H :=
  run_drop hc.sub (run_flat j (by rw [hc.flat]; exact h))

theorem Heap.del_set {H : Heap} {b : Nat} {r : Res} (h : H b = none) : (H.set b r).del b = H := by
  funext c
  simp only [Heap.del, Heap.set]
  split
  · rename_i e; subst e; exact h.symm
  · rfl

theorem runA_and {p : Prop} (hp : p) (h : RunA P W f N Q k env H) : p ∧ RunA P W f N Q k env H := ⟨hp, h⟩
theorem runO_and {p : Prop} (hp : p) (h : RunO P W f N Q ops l k env H) : p ∧ RunO P W f N Q ops l k env H := ⟨hp, h⟩
theorem runD_and {p : Prop} (hp : p) (h : RunD P W f N Q ws ops k H l env) : p ∧ RunD P W f N Q ws ops k H l env := ⟨hp, h⟩
end
end Go.Sn
namespace Go.Sn
open Go Go.RowKit
set_option linter.unusedVariables false
set_option linter.unusedSimpArgs false

/-- The value that an abstract value is, where it is one. -/
def litV : D → Option Value
  | .v x => some x
  | .agg ds => (litsA ds).map fun cs => .agg cs.toArray
  | _ => none

theorem Rep.litV {G : IG} {x v : Value} {d : D} (h : Rep G x d) (hv : litV d = some v) : x = v := by
  cases d with
  | v y => simp only [Sn.litV, Option.some.injEq] at hv; subst hv; exact h.inv_v
  | agg ds =>
    simp only [Sn.litV, Option.map_eq_some_iff] at hv
    obtain ⟨cs, hm, rfl⟩ := hv
    obtain ⟨cs', rfl, hr⟩ := h.inv_agg
    rw [litsA_ok hm hr]
  | _ => simp [Sn.litV] at hv

open Classical in
/-- What stands at a key. -/
noncomputable def getE (es : List (Value × D)) (k : Value) : Option D := (es.find? fun e => decide (e.1 = k)).map (·.2)
open Classical in
/-- The entries behind `m[k] = d`. -/
noncomputable def putE (es : List (Value × D)) (k : Value) (d : D) : List (Value × D) :=
  if (getE es k).isSome then es.map (fun e => if e.1 = k then (k, d) else e) else es ++ [(k, d)]

/-- Entries whose keys the machine can compare, each once. -/
structure KeysOk (P : Program) (kt : TypeId) (es : List (Value × D)) : Prop where
  keyed : ∀ e ∈ es, ∃ l, keyOf P kt e.1 = some l
  nodup : (es.map (·.1)).Nodup

theorem KeysOk.nil (P : Program) (kt : TypeId) : KeysOk P kt [] := ⟨by simp, by simp⟩
open Classical in
theorem KeysOk.put {P : Program} {kt : TypeId} {es : List (Value × D)} (h : KeysOk P kt es) {k : Value} {d : D} {l : Lit} (hk : keyOf P kt k = some l) : KeysOk P kt (putE es k d) := by
  unfold putE
  split
  · rename_i hs
    have hm : (es.map (fun e => if e.1 = k then (k, d) else e)).map (·.1) = es.map (·.1) := by
      rw [List.map_map]
      refine List.map_congr_left fun e he => ?_
      simp only [Function.comp]
      split
      · rename_i e1; exact e1.symm
      · rfl
    refine ⟨fun e he => ?_, by rw [hm]; exact h.nodup⟩
    obtain ⟨e0, h0, rfl⟩ := List.mem_map.1 he
    split
    · exact ⟨l, hk⟩
    · exact h.keyed _ h0
  · rename_i hs
    have hnot : ∀ e ∈ es, e.1 ≠ k := by
      intro e he hke
      apply hs
      unfold getE
      rw [Option.isSome_map, List.find?_isSome]
      exact ⟨e, he, by simpa using hke⟩
    refine ⟨fun e he => ?_, ?_⟩
    · rcases List.mem_append.1 he with he | he
      · exact h.keyed e he
      · rw [List.mem_singleton.1 he]; exact ⟨l, hk⟩
    · rw [List.map_append, List.nodup_append]
      refine ⟨h.nodup, by simp, ?_⟩
      intro a ha b hb
      obtain ⟨e, he, rfl⟩ := List.mem_map.1 ha
      simp at hb
      subst hb
      exact hnot e he

section
variable {P : Program} {W : World} {G : IG} {H : Heap} {w : World}

open Classical in
/-- What the search finds. -/
theorem find_own {kt : TypeId} (K : Maps.Keyed P kt) {es : List (Value × D)} (hk : KeysOk P kt es) {ms : List MapEntry} (hl : ms.length = es.length)
    (hr : ∀ (k : Nat) (m : MapEntry) (e : Value × D), ms[k]? = some m → es[k]? = some e → m.key = e.1 ∧ Rep G m.val e.2) {x : Value} {lx : Lit} (hx : keyOf P kt x = some lx) :
    ((Instr.findKey kt x ms).run P w = .ok none w ∧ getE es x = none) ∨
      ∃ j m d, (Instr.findKey kt x ms).run P w = .ok (some (j, m.val)) w ∧ ms[j]? = some m ∧ m.key = x ∧ es[j]? = some (x, d) ∧ Rep G m.val d ∧ getE es x = some d := by
  have hkeys : ∀ m ∈ ms, ∃ l, keyOf P kt m.key = some l := by
    intro m hm
    obtain ⟨j, hj, rfl⟩ := List.getElem_of_mem hm
    have he : es[j]? = some (es[j]'(by omega)) := List.getElem?_eq_getElem (by omega)
    obtain ⟨h1, _⟩ := hr j _ _ (List.getElem?_eq_getElem hj) he
    rw [h1]
    exact hk.keyed _ (List.getElem_mem _)
  rcases K.find w hx ms hkeys with ⟨h1, h2⟩ | ⟨j, m, h1, h2, h3⟩
  · left
    refine ⟨h1, ?_⟩
    unfold getE
    rw [Option.map_eq_none_iff, List.find?_eq_none]
    intro e he
    obtain ⟨j, hj, rfl⟩ := List.getElem_of_mem he
    have hm : ms[j]? = some (ms[j]'(by omega)) := List.getElem?_eq_getElem (by omega)
    obtain ⟨h4, _⟩ := hr j _ _ hm (List.getElem?_eq_getElem hj)
    simp only [decide_eq_true_eq]
    rw [← h4]
    exact h2 _ (List.getElem_mem _)
  · right
    have hj : j < ms.length := (List.getElem?_eq_some_iff.1 h2).1
    have he : es[j]? = some (es[j]'(by omega)) := List.getElem?_eq_getElem (by omega)
    obtain ⟨h4, h5⟩ := hr j _ _ h2 he
    have hkx : es[j].1 = x := by rw [← h4]; exact h3
    refine ⟨j, m, es[j].2, h1, h2, h3, by rw [he, ← hkx], h5, ?_⟩
    unfold getE
    have hfind : es.find? (fun e => decide (e.1 = x)) = some es[j] := by
      rw [List.find?_eq_some_iff_getElem]
      refine ⟨by simpa using hkx, j, by omega, rfl, fun i hi => ?_⟩
      have hnd := hk.nodup
      rw [List.nodup_iff_pairwise_ne] at hnd
      have := List.pairwise_iff_getElem.1 hnd i j (by simp; omega) (by simp; omega) hi
      simp only [List.getElem_map] at this
      simpa [hkx] using fun e => this (by rw [hkx]; exact e)
    rw [hfind]
    rfl

theorem World.cell?_map {b p : Nat} {ms : Array MapEntry} {ck : Nat} (h : w.heap[b]? = some (.map ms ck)) : w.cell? ⟨b, p, none⟩ = none := by
  simp [World.cell?, h]

def Born (ms : List MapEntry) (ck : Nat) : Prop := ck = ms.length ∧ ∀ (k : Nat) (m : MapEntry), ms[k]? = some m → m.born = k
theorem born_snoc {ms : List MapEntry} {ck : Nat} {k v : Value} (h : Born ms ck) : Born (ms ++ [MapEntry.mk k v ck]) (ck + 1) := by
  obtain ⟨h1, h2⟩ := h
  refine ⟨by simp [h1], fun j m hj => ?_⟩
  rw [List.getElem?_append] at hj
  split at hj
  · exact h2 j m hj
  · cases hkk : j - ms.length with
    | zero => rw [hkk] at hj; simp at hj; subst hj; simp only; omega
    | succ n => rw [hkk] at hj; simp at hj
theorem born_set {ms : List MapEntry} {ck j : Nat} {me : MapEntry} {k v : Value} (h : Born ms ck) (hj : ms[j]? = some me) : Born (ms.set j (MapEntry.mk k v me.born)) ck := by
  obtain ⟨h1, h2⟩ := h
  refine ⟨by simp [h1], fun i m hi => ?_⟩
  rw [List.getElem?_set] at hi
  split at hi
  · rename_i e
    subst e
    have h3 := h2 _ _ hj
    split at hi
    · cases hi; exact h3
    · cases hi
  · exact h2 i m hi

/-- A map of ours, written. -/
theorem Inv.setMap (h : Inv W G H w) {b : Nat} {es es' : List (Value × D)} (hb : H b = some (.map es)) {ms' : List MapEntry} {ck' : Nat} (hl : ms'.length = es'.length)
    (hr : ∀ (k : Nat) (m : MapEntry) (e : Value × D), ms'[k]? = some m → es'[k]? = some e → m.key = e.1 ∧ Rep G m.val e.2) (hs : Born ms' ck') :
    Inv W G (H.set b (.map es')) { w with heap := w.heap.setIfInBounds b (.map ms'.toArray ck') } := by
  obtain ⟨hWb, ms, ck, hms, _, _, _⟩ := h.res b _ hb
  have hlt : b < w.heap.size := (Array.getElem?_eq_some_iff.1 hms).1
  have hother : ∀ k, k ≠ b → (w.heap.setIfInBounds b (.map ms'.toArray ck'))[k]? = w.heap[k]? := fun k hk => by
    rw [Array.getElem?_setIfInBounds]
    rw [if_neg (fun e => hk e.symm)]
  have hset : (w.heap.setIfInBounds b (.map ms'.toArray ck'))[b]? = some (.map ms'.toArray ck') := by
    rw [Array.getElem?_setIfInBounds]
    simp [hlt]
  refine ⟨h.below.trans ⟨rfl, rfl, rfl, by simp, fun k hk => hother k (by omega)⟩, fun p o x hx => ⟨?_, (h.imm p o x hx).2⟩, fun k r hk => ?_⟩
  · have hc := (h.imm p o x hx).1
    have hpb : p ≠ b := fun e => by subst e; rw [World.cell?_map hms] at hc; cases hc
    rw [← hc]
    simp only [World.cell?, hother p hpb]
  · rw [Heap.set_at] at hk
    split at hk
    · rename_i e; subst e; cases hk; exact ⟨hWb, ms', ck', hset, hl, hr, hs⟩
    · rename_i hkb
      exact ⟨(h.res k r hk).1, (h.res k r hk).2.same (hother k hkb)⟩

/-- A type's zero value, as an abstract value. -/
def zeroV (P : Program) (t : TypeId) : Option D :=
  match P.info? t with
  | some i => i.zero.map ofV
  | none => none

theorem run_zeroV {t : TypeId} {d : D} (h : zeroV P t = some d) : ∃ v, (zeroValue t).run P w = .ok v w ∧ Rep G v d := by
  unfold zeroV at h
  cases hi : P.info? t with
  | none => simp [hi] at h
  | some i =>
    simp only [hi, Option.map_eq_some_iff] at h
    obtain ⟨z, hz, rfl⟩ := h
    exact ⟨z, by simp [zeroValue, typeInfo, Sem.run_bind, hi, hz], rep_ofV G z⟩
end

section
variable {P : Program} {W : World} {f : FuncId} {N : Nat} {Q : D → Heap → Prop} {ws : Cl} {ops : Array Oper} {l : List Oper} {o : Oper} {k : List Item} {env : Env} {H : Heap}

theorem opOk_makeMap {ρ : Operand → D} {K : D → Heap → Prop} {t : TypeId} (ho : o.op = .makeMap t none) (hK : ∀ b, H b = none → K (.v (.map (some b))) (H.set b (.map []))) : OpOk P W o ρ H K := by
  intro G a w next Qx hI hρ hnext
  refine wp_value (w' := w.alloc (.map #[] 0)) (v := .map (some w.heap.size)) ?_ (hnext _ _ _ _ _ (.refl G) ((hI.alloc _).add (b := w.heap.size) (r := .map []) hI.below.size ⟨[], 0, (MapKept.heap_alloc w _).1, rfl, by simp, rfl, by simp⟩) (.v _) (hK _ (hI.fresh (Nat.le_refl _))))
  simp only [execOp, ho]
  exact execOp_v' rfl

theorem opOk_lookup {ρ : Operand → D} {K : D → Heap → Prop} {t kt et : TypeId} {m x : Operand} {b : Nat} {es : List (Value × D)} {kv : Value} {lk : Lit} {z : D} (ho : o.op = .lookup t m x false) (hu : P.underlying t = some (.map kt et))
    (KK : Maps.Keyed P kt) (hz : zeroV P et = some z) (hm : ρ m = .v (.map (some b))) (hb : H b = some (.map es)) (hes : KeysOk P kt es) (hx : litV (ρ x) = some kv) (hl : keyOf P kt kv = some lk)
    (hK : K ((getE es kv).getD z) H) : OpOk P W o ρ H K := by
  intro G a w next Qx hI hρ hnext
  have hmv : a.eval m = .map (some b) := by have := hρ m (by simp [ho, Op.operands]); rw [hm] at this; exact this.inv_v
  have hxv : a.eval x = kv := (hρ x (by simp [ho, Op.operands])).litV hx
  obtain ⟨_, ms, ck, hms, hlen, hr, hck, hborn⟩ := hI.res b _ hb
  have hget : (getObj b).run P w = .ok (.map ms.toArray ck) w := MapKept.run_getObj_map hms
  rcases find_own (w := w) KK hes hlen hr hl with ⟨h1, h2⟩ | ⟨j, me, d, h1, h2, h3, h4, h5, h6⟩
  · obtain ⟨zv, hzv, hzr⟩ := run_zeroV (P := P) (G := G) (w := w) hz
    refine wp_value (w' := w) (v := zv) ?_ (hnext _ _ _ _ _ (.refl G) hI hzr (by rw [h2] at hK; exact hK))
    simp only [execOp, ho, hmv, hxv]
    refine execOp_v' ?_
    simp only [Instr.lookup, Sem.run_bind, run_underlying hu, Result.andThen_ok, hget, Sem.run_pure, KK.check w _ hl, h1, hzv]
    rfl
  · refine wp_value (w' := w) (v := me.val) ?_ (hnext _ _ _ _ _ (.refl G) hI h5 (by rw [h6] at hK; exact hK))
    simp only [execOp, ho, hmv, hxv]
    refine execOp_v' ?_
    simp only [Instr.lookup, Sem.run_bind, run_underlying hu, Result.andThen_ok, hget, Sem.run_pure, KK.check w _ hl, h1]
    rfl

open Classical in
theorem opOk_mapUpdate {ρ : Operand → D} {K : D → Heap → Prop} {t kt et : TypeId} {m x y : Operand} {b : Nat} {es : List (Value × D)} {kv : Value} {lk : Lit} (ho : o.op = .mapUpdate t m x y) (hu : P.underlying t = some (.map kt et))
    (KK : Maps.Keyed P kt) (hm : ρ m = .v (.map (some b))) (hb : H b = some (.map es)) (hes : KeysOk P kt es) (hx : litV (ρ x) = some kv) (hl : keyOf P kt kv = some lk)
    (hK : K (.v undef) (H.set b (.map (putE es kv (ρ y))))) : OpOk P W o ρ H K := by
  intro G a w next Qx hI hρ hnext
  have hmv : a.eval m = .map (some b) := by have := hρ m (by simp [ho, Op.operands]); rw [hm] at this; exact this.inv_v
  have hxv : a.eval x = kv := (hρ x (by simp [ho, Op.operands])).litV hx
  have hyv : Rep G (a.eval y) (ρ y) := hρ y (by simp [ho, Op.operands])
  obtain ⟨_, ms, ck, hms, hlen, hr, hck, hborn⟩ := hI.res b _ hb
  have hget : (getObj b).run P w = .ok (.map ms.toArray ck) w := MapKept.run_getObj_map hms
  have key : ∀ (ms' : List MapEntry) (ck' : Nat), ms'.length = (putE es kv (ρ y)).length →
      (∀ (k : Nat) (m : MapEntry) (e : Value × D), ms'[k]? = some m → (putE es kv (ρ y))[k]? = some e → m.key = e.1 ∧ Rep G m.val e.2) → Born ms' ck' →
      (execOp a.eval o).run P w = .ok .skip { w with heap := w.heap.setIfInBounds b (.map ms'.toArray ck') } → o.wp P a w next Qx := by
    intro ms' ck' h1 h2 h3 hrun
    unfold Oper.wp
    rw [hrun]
    exact hnext undef (.v undef) _ G _ (.refl G) (hI.setMap hb h1 h2 h3) (.v _) hK
  rcases find_own (w := w) KK hes hlen hr hl with ⟨h1, h2⟩ | ⟨j, me, d, h1, h2, h3, h4, h5, h6⟩
  · have hput : putE es kv (ρ y) = es ++ [(kv, ρ y)] := by rw [putE, h2]; rfl
    refine key (ms ++ [MapEntry.mk kv (a.eval y) ck]) (ck + 1) (by rw [hput]; simp [hlen]) (fun k m' e hm' he => ?_) (born_snoc ⟨hck, hborn⟩) ?_
    · rw [hput] at he
      rw [List.getElem?_append] at hm' he
      rw [hlen] at hm'
      split at hm'
      · rename_i hk; rw [if_pos hk] at he; exact hr k m' e hm' he
      · rename_i hk
        rw [if_neg hk] at he
        cases hkk : k - es.length with
        | zero => rw [hkk] at hm' he; simp at hm' he; subst hm'; subst he; exact ⟨rfl, hyv⟩
        | succ n => rw [hkk] at hm'; simp at hm'
    · simp only [execOp, ho, hmv, hxv]
      have hrun : (Instr.mapUpdate t (.map (some b)) kv (a.eval y)).run P w = .ok () { w with heap := w.heap.setIfInBounds b (.map (ms ++ [MapEntry.mk kv (a.eval y) ck]).toArray (ck + 1)) } := by
        simp only [Instr.mapUpdate, Sem.run_bind, run_underlying hu, Result.andThen_ok, hget, KK.check w _ hl, h1]
        rw [MapKept.run_setObj_map _ hms]
        simp
      simp [Sem.run_bind, hrun]
  · have hjl : j < ms.length := (List.getElem?_eq_some_iff.1 h2).1
    have hput : putE es kv (ρ y) = es.map (fun e => if e.1 = kv then (kv, ρ y) else e) := by rw [putE, h6]; rfl
    have hnd := hes.nodup
    rw [List.nodup_iff_pairwise_ne] at hnd
    have hpw := List.pairwise_iff_getElem.1 hnd
    refine key (ms.set j (MapEntry.mk kv (a.eval y) me.born)) ck (by rw [hput]; simp [hlen]) (fun k m' e hm' he => ?_) (born_set ⟨hck, hborn⟩ h2) ?_
    · rw [hput, List.getElem?_map, Option.map_eq_some_iff] at he
      obtain ⟨e0, he0, rfl⟩ := he
      rw [List.getElem?_set] at hm'
      by_cases hjk : j = k
      · subst hjk
        rw [if_pos rfl, if_pos hjl] at hm'
        cases hm'
        rw [h4] at he0
        cases he0
        rw [if_pos rfl]
        exact ⟨rfl, hyv⟩
      · rw [if_neg hjk] at hm'
        have hne : e0.1 ≠ kv := by
          intro e
          have hk1 : k < es.length := (List.getElem?_eq_some_iff.1 he0).1
          have hj1 : j < es.length := by omega
          have he1 : es[k].1 = kv := by rw [(List.getElem?_eq_some_iff.1 he0).2]; exact e
          have he2 : es[j].1 = kv := by rw [(List.getElem?_eq_some_iff.1 h4).2]
          rcases Nat.lt_or_ge j k with hlt | hge
          · have := hpw j k (by simpa using hj1) (by simpa using hk1) hlt
            simp only [List.getElem_map] at this
            exact this (he2.trans he1.symm)
          · have := hpw k j (by simpa using hk1) (by simpa using hj1) (by omega)
            simp only [List.getElem_map] at this
            exact this (he1.trans he2.symm)
        rw [if_neg hne]
        exact hr k m' e0 hm' he0
    · simp only [execOp, ho, hmv, hxv]
      have hrun : (Instr.mapUpdate t (.map (some b)) kv (a.eval y)).run P w = .ok () { w with heap := w.heap.setIfInBounds b (.map (ms.set j (MapEntry.mk kv (a.eval y) me.born)).toArray ck) } := by
        have hkey : (((ms.toArray[j]?).map (·.key)).getD kv) = kv := by simp [h2, h3]
        simp only [Instr.mapUpdate, Sem.run_bind, run_underlying hu, Result.andThen_ok, hget, KK.check w _ hl, h1]
        rw [hkey, KK.stays w hl]
        simp only [Result.andThen_ok]
        rw [MapKept.run_setObj_map _ hms]
        have hmod : (ms.toArray.modify j fun e => MapEntry.mk kv (a.eval y) e.born) = (ms.set j (MapEntry.mk kv (a.eval y) me.born)).toArray := by
          apply Array.ext
          · simp
          · intro i h7 h8
            have hi : i < ms.length := by simpa using h8
            rw [Array.getElem_modify]
            simp only [List.getElem_toArray, List.getElem_set]
            split
            · rename_i hji
              subst hji
              have : ms[j] = me := (List.getElem?_eq_some_iff.1 h2).2
              rw [this]
            · rfl
        rw [hmod]
      simp [Sem.run_bind, hrun]

open Classical in
/-- Which place a key has, or will have. -/
noncomputable def idxE (es : List (Value × D)) (k : Value) : Nat := es.findIdx fun e => decide (e.1 = k)
/-- The entries with a place for a key. -/
noncomputable def ensE (es : List (Value × D)) (k : Value) (z : D) : List (Value × D) := if (getE es k).isSome then es else es ++ [(k, z)]
def setE (es : List (Value × D)) (n : Nat) (d : D) : List (Value × D) := es.modify n fun e => (e.1, d)

open Classical in
theorem idxE_some {es : List (Value × D)} {k : Value} {d : D} {j : Nat} (hn : (es.map (·.1)).Nodup) (hj : es[j]? = some (k, d)) : idxE es k = j := by
  have hl : j < es.length := (List.getElem?_eq_some_iff.1 hj).1
  have he : es[j] = (k, d) := (List.getElem?_eq_some_iff.1 hj).2
  unfold idxE
  rw [List.findIdx_eq hl]
  refine ⟨by simp [he], fun i hi => ?_⟩
  rw [List.nodup_iff_pairwise_ne] at hn
  have := List.pairwise_iff_getElem.1 hn i j (by simp; omega) (by simpa using hl) hi
  simp only [List.getElem_map] at this
  rw [he] at this
  simpa using this
open Classical in
theorem idxE_none {es : List (Value × D)} {k : Value} (h : getE es k = none) : idxE es k = es.length := by
  unfold getE at h
  rw [Option.map_eq_none_iff, List.find?_eq_none] at h
  unfold idxE
  rw [List.findIdx_eq_length]
  intro x hx
  have := h x hx
  simpa using this

theorem opOk_mapEntry {ρ : Operand → D} {K : D → Heap → Prop} {t kt et : TypeId} {m x : Operand} {b : Nat} {es : List (Value × D)} {kv : Value} {lk : Lit} {z : D} (ho : o.op = .mapEntry t m x) (hu : P.underlying t = some (.map kt et))
    (KK : Maps.Keyed P kt) (hz : zeroV P et = some z) (hm : ρ m = .v (.map (some b))) (hb : H b = some (.map es)) (hes : KeysOk P kt es) (hx : litV (ρ x) = some kv) (hl : keyOf P kt kv = some lk)
    (hK : K (.tup [(getE es kv).getD z, .v (.int .i64 (idxE es kv : Int))]) (H.set b (.map (ensE es kv z)))) : OpOk P W o ρ H K := by
  intro G a w next Qx hI hρ hnext
  have hmv : a.eval m = .map (some b) := by have := hρ m (by simp [ho, Op.operands]); rw [hm] at this; exact this.inv_v
  have hxv : a.eval x = kv := (hρ x (by simp [ho, Op.operands])).litV hx
  obtain ⟨_, ms, ck, hms, hlen, hr, hck, hborn⟩ := hI.res b _ hb
  have hget : (getObj b).run P w = .ok (.map ms.toArray ck) w := MapKept.run_getObj_map hms
  rcases find_own (w := w) KK hes hlen hr hl with ⟨h1, h2⟩ | ⟨j, me, d, h1, h2, h3, h4, h5, h6⟩
  · obtain ⟨zv, hzv, hzr⟩ := run_zeroV (P := P) (G := G) (w := w) hz
    rw [idxE_none h2] at hK
    have hens : ensE es kv z = es ++ [(kv, z)] := by rw [ensE, h2]; rfl
    rw [h2, hens] at hK
    refine wp_value (w' := { w with heap := w.heap.setIfInBounds b (.map (ms ++ [MapEntry.mk kv zv ck]).toArray (ck + 1)) }) (v := .tuple #[zv, goInt ck]) ?_
      (hnext _ _ _ _ _ (.refl G) (hI.setMap hb (es' := es ++ [(kv, z)]) (by simp [hlen]) (fun k m' e hm' he => ?_) (born_snoc ⟨hck, hborn⟩)) ?_ hK)
    · simp only [execOp, ho, hmv, hxv]
      refine execOp_v' ?_
      simp only [Instr.mapEntry, Sem.run_bind, run_underlying hu, Result.andThen_ok, hget, KK.check w _ hl, h1, hzv]
      rw [MapKept.run_setObj_map _ hms]
      simp
    · rw [List.getElem?_append] at hm' he
      rw [hlen] at hm'
      split at hm'
      · rename_i hk; rw [if_pos hk] at he; exact hr k m' e hm' he
      · rename_i hk
        rw [if_neg hk] at he
        cases hkk : k - es.length with
        | zero => rw [hkk] at hm' he; simp at hm' he; subst hm'; subst he; exact ⟨rfl, hzr⟩
        | succ n => rw [hkk] at hm'; simp at hm'
    · refine Rep.mkTup (cs := [zv, goInt ck]) (Reps.cons (by simpa using hzr) (Reps.cons ?_ (Reps.nil G)))
      rw [hck, hlen]
      exact .v _
  · have hnd := hes.nodup
    rw [idxE_some hnd h4] at hK
    have hens : ensE es kv z = es := by rw [ensE, h6]; rfl
    rw [h6, hens, Heap.set_self hb] at hK
    have hjb := hborn j me h2
    refine wp_value (w' := w) (v := .tuple #[me.val, goInt j]) ?_ (hnext _ _ _ _ _ (.refl G) hI ?_ hK)
    · simp only [execOp, ho, hmv, hxv]
      refine execOp_v' ?_
      have hkey : (((ms.toArray[j]?).map (·.key)).getD kv) = kv := by simp [h2, h3]
      have hbj : ((Option.map (fun x => ((MapEntry.born x : Nat) : Int)) ms.toArray[j]?).getD 0) = (j : Int) := by simp [h2, hjb]
      simp only [Instr.mapEntry, Sem.run_bind, run_underlying hu, Result.andThen_ok, hget, KK.check w _ hl, h1]
      rw [hkey, KK.stays w hl]
      simp only [Result.andThen_ok]
      rw [MapKept.run_setObj_map _ hms, hbj]
      have hmod : (ms.toArray.modify j fun e => { e with key := kv }) = ms.toArray := by
        apply Array.ext'
        rw [Array.toList_modify]
        apply List.ext_getElem (by simp)
        intro i h7 h8
        rw [List.getElem_modify]
        split
        · rename_i e
          subst e
          have : ms[j] = me := (List.getElem?_eq_some_iff.1 h2).2
          simp only [this]
          rw [← h3]
        · rfl
      rw [hmod]
      have hw : { w with heap := w.heap.setIfInBounds b (.map ms.toArray ck) } = w := by
        have : w.heap.setIfInBounds b (.map ms.toArray ck) = w.heap := by
          apply Array.ext_getElem?
          intro i
          rw [Array.getElem?_setIfInBounds]
          split
          · rename_i e
            subst e
            rw [hms]
            split
            · rfl
            · rename_i hlt; exact absurd (Array.getElem?_eq_some_iff.1 hms).1 hlt
          · rfl
        rw [this]
      rw [hw]
      simp
    · exact Rep.mkTup (cs := [me.val, goInt j]) (Reps.cons (by simpa using h5) (Reps.cons (.v _) (Reps.nil G)))

theorem findIdx_stamp {ms : List MapEntry} {ck n : Nat} (h : Born ms ck) (hn : n < ms.length) : ms.findIdx? (fun e => (e.born : Int) == (n : Int)) = some n := by
  rw [List.findIdx?_eq_some_iff_getElem]
  refine ⟨hn, ?_, fun j hj => ?_⟩
  · have := h.2 n ms[n] (List.getElem?_eq_getElem hn)
    simp [this]
  · have := h.2 j (ms[j]'(by omega)) (List.getElem?_eq_getElem (by omega))
    simp [this]
    omega

theorem opOk_entryStore {ρ : Operand → D} {K : D → Heap → Prop} {t : TypeId} {m s x : Operand} {b n : Nat} {es : List (Value × D)} (ho : o.op = .entryStore t m s x)
    (hm : ρ m = .v (.map (some b))) (hb : H b = some (.map es)) (hs : ρ s = .v (.int .i64 (n : Int))) (hn : n < es.length)
    (hK : K (.v undef) (H.set b (.map (setE es n (ρ x))))) : OpOk P W o ρ H K := by
  intro G a w next Qx hI hρ hnext
  have hmv : a.eval m = .map (some b) := by have := hρ m (by simp [ho, Op.operands]); rw [hm] at this; exact this.inv_v
  have hsv : a.eval s = .int .i64 (n : Int) := by have := hρ s (by simp [ho, Op.operands]); rw [hs] at this; exact this.inv_v
  have hyv : Rep G (a.eval x) (ρ x) := hρ x (by simp [ho, Op.operands])
  obtain ⟨_, ms, ck, hms, hlen, hr, hck, hborn⟩ := hI.res b _ hb
  have hget : (getObj b).run P w = .ok (.map ms.toArray ck) w := MapKept.run_getObj_map hms
  have hnm : n < ms.length := by omega
  have hrun : (execOp a.eval o).run P w = .ok .skip { w with heap := w.heap.setIfInBounds b (.map (ms.modify n fun e => { e with val := a.eval x }).toArray ck) } := by
    simp only [execOp, ho, hmv, hsv]
    have h1 : (Instr.entryStore t (.map (some b)) (.int .i64 (n : Int)) (a.eval x)).run P w = .ok () { w with heap := w.heap.setIfInBounds b (.map (ms.modify n fun e => { e with val := a.eval x }).toArray ck) } := by
      have hidx := findIdx_stamp ⟨hck, hborn⟩ hnm
      simp only [Instr.entryStore, Sem.run_bind, Result.andThen_ok, hget, asInt, asIntOf, List.findIdx?_toArray, hidx, Sem.run_pure]
      rw [MapKept.run_setObj_map _ hms]
      simp
    simp [Sem.run_bind, h1]
  unfold Oper.wp
  rw [hrun]
  refine hnext undef (.v undef) _ G _ (.refl G) (hI.setMap hb (es' := setE es n (ρ x)) (by simp [setE, hlen]) (fun k m' e hm' he => ?_) ⟨by simp [hck], fun k m' hm' => ?_⟩) (.v _) hK
  · rw [setE, List.getElem?_modify] at he
    rw [List.getElem?_modify] at hm'
    by_cases hk : n = k
    · simp only [hk, if_true, Option.map_eq_map, Option.map_eq_some_iff] at he hm'
      obtain ⟨m0, hm0, rfl⟩ := hm'
      obtain ⟨e0, he0, rfl⟩ := he
      exact ⟨(hr k m0 e0 hm0 he0).1, hyv⟩
    · simp only [hk, if_false, Option.map_eq_map, Option.map_eq_some_iff, id] at he hm'
      obtain ⟨m0, hm0, rfl⟩ := hm'
      obtain ⟨e0, he0, rfl⟩ := he
      exact hr k m0 e0 hm0 he0
  · rw [List.getElem?_modify] at hm'
    by_cases hk : n = k
    · simp only [hk, if_true, Option.map_eq_map, Option.map_eq_some_iff] at hm'
      obtain ⟨m0, hm0, rfl⟩ := hm'
      exact hborn k m0 hm0
    · simp only [hk, if_false, Option.map_eq_map, Option.map_eq_some_iff, id] at hm'
      obtain ⟨m0, hm0, rfl⟩ := hm'
      exact hborn k m0 hm0

section lits
variable {dst : Option Tmp} {ty : TypeId} {pos : String} {aft : Array Edge}

theorem runO_makeMap {t : TypeId} (h : ∀ b, H b = none → RunO P W f N Q ops l k (put N env dst (.v (.map (some b)))) (H.set b (.map []))) :
    RunO P W f N Q ops (⟨dst, .makeMap t none, ty, pos, aft, none⟩ :: l) k env H := runO_op rfl (opOk_makeMap rfl h)

theorem runD_makeMap {t : TypeId} (h : ∀ b, H b = none → RunD P W f N Q ws ops k (H.set b (.map [])) l (put N env dst (.v (.map (some b))))) :
    RunD P W f N Q ws ops k H (⟨dst, .makeMap t none, ty, pos, aft, none⟩ :: l) env :=
  runD_new (mk := fun b => .v (.map (some b))) rfl rfl (fun H' K hK => opOk_makeMap rfl hK) h
theorem runO_lookup {t kt et : TypeId} {m x : Operand} {b : Nat} {es : List (Value × D)} {kv : Value} {lk : Lit} {z : D} (hu : P.underlying t = some (.map kt et))
    (KK : Maps.Keyed P kt) (hz : zeroV P et = some z) (hm : ev env m = .v (.map (some b))) (hb : H b = some (.map es)) (hes : KeysOk P kt es) (hx : litV (ev env x) = some kv) (hl : keyOf P kt kv = some lk)
    (h : RunO P W f N Q ops l k (put N env dst ((getE es kv).getD z)) H) :
    RunO P W f N Q ops (⟨dst, .lookup t m x false, ty, pos, aft, none⟩ :: l) k env H := runO_op rfl (opOk_lookup rfl hu KK hz hm hb hes hx hl h)

theorem runD_lookup {t kt et : TypeId} {m x : Operand} {b : Nat} {es : List (Value × D)} {kv : Value} {lk : Lit} {z : D} (hu : P.underlying t = some (.map kt et))
    (KK : Maps.Keyed P kt) (hz : zeroV P et = some z) (hm : ev env m = .v (.map (some b))) (hb : H b = some (.map es)) (hes : KeysOk P kt es) (hx : litV (ev env x) = some kv) (hl : keyOf P kt kv = some lk)
    (h : RunD P W f N Q ws ops k H l (put N env dst ((getE es kv).getD z))) :
    RunD P W f N Q ws ops k H (⟨dst, .lookup t m x false, ty, pos, aft, none⟩ :: l) env :=
  runD_op (by simp [opW]) rfl (fun H' hH => opOk_lookup rfl hu KK hz hm (hH.1 (by simp [opR]) (by simp [opR]) _ _ hb rfl) hes hx hl ⟨rfl, rfl⟩) h

theorem runD_lookupG {t kt et : TypeId} {m x : Operand} {b : Nat} {es : List (Value × D)} {kv : Value} {lk : Lit} {z : D} {j : Nat} {g : Bool} {cs : List Bool} (ht : guardA ops env j g = some cs) (hu : P.underlying t = some (.map kt et))
    (KK : Maps.Keyed P kt) (hz : zeroV P et = some z) (hm : stripL cs (ev env m) = .v (.map (some b))) (hb : H b = some (.map es)) (hes : KeysOk P kt es) (hx : litV (stripL cs (ev env x)) = some kv) (hl : keyOf P kt kv = some lk)
    (h : RunD P W f N Q ws ops k H l (put N env dst (wrapL cs ((getE es kv).getD z)))) :
    RunD P W f N Q ws ops k H (⟨dst, .lookup t m x false, ty, pos, aft, some (j, g)⟩ :: l) env :=
  runD_guarded (by simp [opW]) rfl ht (fun H' hH _ => opOk_lookup rfl hu KK hz hm (hH.1 (by simp [opR]) (by simp [opR]) _ _ hb rfl) hes hx hl ⟨rfl, rfl⟩) h

theorem runO_mapUpdate {t kt et : TypeId} {m x y : Operand} {b : Nat} {es : List (Value × D)} {kv : Value} {lk : Lit} (hu : P.underlying t = some (.map kt et))
    (KK : Maps.Keyed P kt) (hm : ev env m = .v (.map (some b))) (hb : H b = some (.map es)) (hes : KeysOk P kt es) (hx : litV (ev env x) = some kv) (hl : keyOf P kt kv = some lk)
    (h : RunO P W f N Q ops l k (put N env dst (.v undef)) (H.set b (.map (putE es kv (ev env y))))) :
    RunO P W f N Q ops (⟨dst, .mapUpdate t m x y, ty, pos, aft, none⟩ :: l) k env H := runO_op rfl (opOk_mapUpdate rfl hu KK hm hb hes hx hl h)

theorem runD_mapUpdate {t kt et : TypeId} {m x y : Operand} {b : Nat} {es : List (Value × D)} {kv : Value} {lk : Lit} (hu : P.underlying t = some (.map kt et))
    (KK : Maps.Keyed P kt) (hm : ev env m = .v (.map (some b))) (hb : H b = some (.map es)) (hes : KeysOk P kt es) (hx : litV (ev env x) = some kv) (hl : keyOf P kt kv = some lk)
    (h : RunD P W f N Q ws ops k (H.set b (.map (putE es kv (ev env y)))) l (put N env dst (.v undef))) :
    RunD P W f N Q ws ops k H (⟨dst, .mapUpdate t m x y, ty, pos, aft, none⟩ :: l) env := runD_turn (.inr (.inl rfl)) rfl hb rfl rfl (fun H' hH => opOk_mapUpdate rfl hu KK hm (hH.1 (by simp [opR]) (by simp [opR]) _ _ hb rfl) hes hx hl ⟨rfl, rfl⟩) h
theorem runO_mapEntry {t kt et : TypeId} {m x : Operand} {b : Nat} {es : List (Value × D)} {kv : Value} {lk : Lit} {z : D} (hu : P.underlying t = some (.map kt et))
    (KK : Maps.Keyed P kt) (hz : zeroV P et = some z) (hm : ev env m = .v (.map (some b))) (hb : H b = some (.map es)) (hes : KeysOk P kt es) (hx : litV (ev env x) = some kv) (hl : keyOf P kt kv = some lk)
    (h : RunO P W f N Q ops l k (put N env dst (.tup [(getE es kv).getD z, .v (.int .i64 (idxE es kv : Int))])) (H.set b (.map (ensE es kv z)))) :
    RunO P W f N Q ops (⟨dst, .mapEntry t m x, ty, pos, aft, none⟩ :: l) k env H := runO_op rfl (opOk_mapEntry rfl hu KK hz hm hb hes hx hl h)

theorem runO_entryStore {t : TypeId} {m s x : Operand} {b n : Nat} {es : List (Value × D)} (hm : ev env m = .v (.map (some b))) (hb : H b = some (.map es)) (hs : ev env s = .v (.int .i64 (n : Int))) (hn : n < es.length)
    (h : RunO P W f N Q ops l k (put N env dst (.v undef)) (H.set b (.map (setE es n (ev env x))))) :
    RunO P W f N Q ops (⟨dst, .entryStore t m s x, ty, pos, aft, none⟩ :: l) k env H := runO_op rfl (opOk_entryStore rfl hm hb hs hn h)

theorem runD_mapEntry {t kt et : TypeId} {m x : Operand} {b : Nat} {es : List (Value × D)} {kv : Value} {lk : Lit} {z : D} (hu : P.underlying t = some (.map kt et))
    (KK : Maps.Keyed P kt) (hz : zeroV P et = some z) (hm : ev env m = .v (.map (some b))) (hb : H b = some (.map es)) (hes : KeysOk P kt es) (hx : litV (ev env x) = some kv) (hl : keyOf P kt kv = some lk)
    (h : RunD P W f N Q ws ops k (H.set b (.map (ensE es kv z))) l (put N env dst (.tup [(getE es kv).getD z, .v (.int .i64 (idxE es kv : Int))]))) :
    RunD P W f N Q ws ops k H (⟨dst, .mapEntry t m x, ty, pos, aft, none⟩ :: l) env :=
  runD_turn (.inr (.inl rfl)) rfl hb rfl rfl (fun H' hH => opOk_mapEntry rfl hu KK hz hm (hH.1 (by simp [opR]) (by simp [opR]) _ _ hb rfl) hes hx hl ⟨rfl, rfl⟩) h

theorem runD_entryStore {t : TypeId} {m s x : Operand} {b n : Nat} {es : List (Value × D)} (hm : ev env m = .v (.map (some b))) (hb : H b = some (.map es)) (hs : ev env s = .v (.int .i64 (n : Int))) (hn : n < es.length)
    (h : RunD P W f N Q ws ops k (H.set b (.map (setE es n (ev env x)))) l (put N env dst (.v undef))) :
    RunD P W f N Q ws ops k H (⟨dst, .entryStore t m s x, ty, pos, aft, none⟩ :: l) env :=
  runD_turn (.inr (.inl rfl)) rfl hb rfl rfl (fun H' hH => opOk_entryStore rfl hm (hH.1 (by simp [opR]) (by simp [opR]) _ _ hb rfl) hs hn ⟨rfl, rfl⟩) h
end lits
end

/-! ### typed entries -/
section
variable {K V : Type} [DecidableEq K] (kc : K → Value) (vc : V → D)

/-- The entries of a typed list. -/
def entC (l : List (K × V)) : List (Value × D) := l.map fun x => (kc x.1, vc x.2)
def getM (l : List (K × V)) (k : K) : Option V := (l.find? fun x => decide (x.1 = k)).map (·.2)
def putM (l : List (K × V)) (k : K) (v : V) : List (K × V) := if (getM l k).isSome then l.map (fun x => if x.1 = k then (k, v) else x) else l ++ [(k, v)]

variable {kc vc}
theorem getE_ent (hinj : ∀ a b, kc a = kc b → a = b) (l : List (K × V)) (k : K) : getE (entC kc vc l) (kc k) = (getM l k).map vc := by
  unfold getE getM entC
  rw [List.find?_map]
  have hp : ((fun e : Value × D => @decide (e.1 = kc k) (Classical.propDecidable _)) ∘ fun x : K × V => (kc x.1, vc x.2)) = fun x => decide (x.1 = k) := by
    funext x
    simp only [Function.comp]
    rw [Bool.eq_iff_iff]
    simp only [decide_eq_true_eq]
    exact ⟨fun h => hinj _ _ h, fun h => by rw [h]⟩
  rw [hp]
  cases l.find? (fun x => decide (x.1 = k)) <;> rfl

open Classical in
theorem putE_ent (hinj : ∀ a b, kc a = kc b → a = b) (l : List (K × V)) (k : K) (v : V) : putE (entC kc vc l) (kc k) (vc v) = entC kc vc (putM l k v) := by
  unfold putE putM
  rw [getE_ent hinj]
  cases hg : getM l k with
  | none => simp [entC]
  | some w =>
    simp only [Option.map_some, Option.isSome_some, if_true]
    unfold entC
    rw [List.map_map, List.map_map]
    refine List.map_congr_left fun x _ => ?_
    simp only [Function.comp]
    by_cases h : x.1 = k
    · rw [if_pos h, if_pos (by rw [h])]
    · rw [if_neg h, if_neg (fun e => h (hinj _ _ e))]

theorem getM_put (l : List (K × V)) (k k' : K) (v : V) : getM (putM l k v) k' = if k = k' then some v else getM l k' := by
  unfold putM
  split
  · rename_i hs
    unfold getM at hs ⊢
    rw [Option.isSome_map, List.find?_isSome] at hs
    obtain ⟨x, hx, hxk⟩ := hs
    simp only [decide_eq_true_eq] at hxk
    rw [List.find?_map]
    by_cases hk : k = k'
    · subst hk
      rw [if_pos rfl]
      have hp : ((fun x : K × V => decide (x.1 = k)) ∘ fun x => if x.1 = k then (k, v) else x) = fun x => decide (x.1 = k) := by
        funext y
        simp only [Function.comp]
        by_cases h : y.1 = k <;> simp [h]
      rw [hp]
      cases hf : l.find? (fun x => decide (x.1 = k)) with
      | none => rw [List.find?_eq_none] at hf; exact absurd (by simpa using hxk) (hf x hx)
      | some y =>
        have := List.find?_some hf
        simp only [decide_eq_true_eq] at this
        simp [this]
    · rw [if_neg hk]
      have hp : ((fun x : K × V => decide (x.1 = k')) ∘ fun x => if x.1 = k then (k, v) else x) = fun x => decide (x.1 = k') := by
        funext y
        simp only [Function.comp]
        by_cases h : y.1 = k
        · simp [h, hk]
        · simp [h]
      rw [hp]
      cases hf : l.find? (fun x => decide (x.1 = k')) with
      | none => rfl
      | some y =>
        have := List.find?_some hf
        simp only [decide_eq_true_eq] at this
        have hne : ¬ y.1 = k := fun e => hk (e.symm.trans this)
        simp [hne]
  · rename_i hs
    unfold getM at hs ⊢
    rw [List.find?_append]
    by_cases hk : k = k'
    · subst hk
      rw [if_pos rfl]
      have : l.find? (fun x => decide (x.1 = k)) = none := by
        cases hf : l.find? (fun x => decide (x.1 = k)) with
        | none => rfl
        | some y => rw [hf] at hs; exact absurd rfl hs
      rw [this]
      simp
    · rw [if_neg hk]
      cases l.find? (fun x => decide (x.1 = k')) with
      | none => simp [hk]
      | some y => rfl

/-- Which place a key has, or will have. -/
def idxM (l : List (K × V)) (k : K) : Nat := l.findIdx fun x => decide (x.1 = k)
def ensM (l : List (K × V)) (k : K) (z : V) : List (K × V) := if (getM l k).isSome then l else l ++ [(k, z)]
def setM (l : List (K × V)) (n : Nat) (v : V) : List (K × V) := l.modify n fun x => (x.1, v)

theorem idxE_ent (hinj : ∀ a b, kc a = kc b → a = b) (l : List (K × V)) (k : K) : idxE (entC kc vc l) (kc k) = idxM l k := by
  unfold idxE idxM entC
  rw [List.findIdx_map]
  congr 1
  funext x
  simp only [Function.comp]
  rw [Bool.eq_iff_iff]
  simp only [decide_eq_true_eq]
  exact ⟨fun h => hinj _ _ h, fun h => by rw [h]⟩
theorem ensE_ent (hinj : ∀ a b, kc a = kc b → a = b) (l : List (K × V)) (k : K) (z : V) : ensE (entC kc vc l) (kc k) (vc z) = entC kc vc (ensM l k z) := by
  unfold ensE ensM
  rw [getE_ent hinj]
  cases getM l k <;> simp [entC]
omit [DecidableEq K] in
theorem setE_ent (l : List (K × V)) (n : Nat) (v : V) : setE (entC kc vc l) n (vc v) = entC kc vc (setM l n v) := by
  unfold setE setM entC
  apply List.ext_getElem (by simp)
  intro i h1 h2
  simp only [List.getElem_modify, List.getElem_map]
  split <;> rfl
omit [DecidableEq K] in
theorem entC_length (l : List (K × V)) : (entC kc vc l).length = l.length := by simp [entC]

theorem getM_none {l : List (K × V)} {k : K} (h : getM l k = none) : ∀ x ∈ l, x.1 ≠ k := by
  unfold getM at h
  rw [Option.map_eq_none_iff, List.find?_eq_none] at h
  intro x hx
  simpa using h x hx
theorem getM_none_of {l : List (K × V)} {k : K} (h : ∀ x ∈ l, x.1 ≠ k) : getM l k = none := by
  unfold getM
  rw [Option.map_eq_none_iff, List.find?_eq_none]
  intro x hx
  simpa using h x hx
theorem getM_some {l : List (K × V)} {k : K} {v : V} (h : getM l k = some v) : (k, v) ∈ l := by
  unfold getM at h
  rw [Option.map_eq_some_iff] at h
  obtain ⟨x, hx, rfl⟩ := h
  have h1 := List.find?_some hx
  simp only [decide_eq_true_eq] at h1
  rw [← h1]
  exact List.mem_of_find?_eq_some hx
theorem getM_of_mem {l : List (K × V)} (hn : (l.map (·.1)).Nodup) {k : K} {v : V} (h : (k, v) ∈ l) : getM l k = some v := by
  induction l with
  | nil => cases h
  | cons x l ih =>
    simp only [List.map_cons, List.nodup_cons] at hn
    unfold getM
    rw [List.find?_cons]
    by_cases hx : x.1 = k
    · simp only [hx, decide_true, Option.map_some, Option.some.injEq]
      rcases List.mem_cons.1 h with e | e
      · rw [← e]
      · exact absurd (List.mem_map.2 ⟨_, e, hx.symm⟩) hn.1
    · simp only [hx, decide_false]
      rcases List.mem_cons.1 h with e | e
      · exact absurd (by rw [← e]) hx
      · exact ih hn.2 e
theorem putM_new {l : List (K × V)} {k : K} {v : V} (h : getM l k = none) : putM l k v = l ++ [(k, v)] := by unfold putM; rw [h]; rfl
theorem idxM_none {l : List (K × V)} {k : K} (h : getM l k = none) : idxM l k = l.length := by
  unfold idxM
  rw [List.findIdx_eq_length]
  intro x hx
  simpa using getM_none h x hx
theorem idxM_lt (l : List (K × V)) (k : K) (z : V) : idxM l k < (ensM l k z).length := by
  unfold ensM
  split
  · rename_i hs
    rw [Option.isSome_iff_exists] at hs
    obtain ⟨v, hv⟩ := hs
    unfold idxM
    rw [List.findIdx_lt_length]
    exact ⟨_, getM_some hv, by simp⟩
  · rename_i hs
    rw [idxM_none (by simpa using hs)]
    simp
theorem setM_ensM {l : List (K × V)} (hn : (l.map (·.1)).Nodup) (k : K) (z v : V) : setM (ensM l k z) (idxM l k) v = putM l k v := by
  unfold ensM putM
  split
  · rename_i hs
    rw [Option.isSome_iff_exists] at hs
    obtain ⟨v0, hv0⟩ := hs
    have hmem := getM_some hv0
    have hlt : idxM l k < l.length := by
      unfold idxM
      rw [List.findIdx_lt_length]
      exact ⟨_, hmem, by simp⟩
    have hkey : (l[idxM l k]).1 = k := by
      have : decide ((l[idxM l k]).1 = k) = true := List.findIdx_getElem (xs := l) (p := fun x : K × V => decide (x.1 = k)) (w := hlt)
      simpa using this
    unfold setM
    apply List.ext_getElem (by simp)
    intro i h1 h2
    simp only [List.getElem_modify, List.getElem_map]
    split
    · rename_i e
      have hk : l[i].1 = k := Eq.trans (by simp only [e]) hkey
      rw [if_pos hk, hk]
    · rename_i e
      have hi : i < l.length := by simpa using h2
      rw [if_neg]
      intro hk
      rw [List.nodup_iff_pairwise_ne] at hn
      have hpw := List.pairwise_iff_getElem.1 hn
      rcases Nat.lt_or_ge i (idxM l k) with h | h
      · have := hpw i (idxM l k) (by simpa using hi) (by simpa using hlt) h
        simp only [List.getElem_map] at this
        exact this (hk.trans hkey.symm)
      · have := hpw (idxM l k) i (by simpa using hlt) (by simpa using hi) (by omega)
        simp only [List.getElem_map] at this
        exact this (hkey.trans hk.symm)
  · rename_i hs
    rw [idxM_none (by simpa using hs)]
    unfold setM
    apply List.ext_getElem (by simp)
    intro i h1 h2
    simp only [List.getElem_modify, List.getElem_append]
    split
    · rename_i e; subst e; simp
    · rename_i e
      simp only [List.length_append, List.length_cons, List.length_nil] at h2
      have : i < l.length := by omega
      simp [this]
theorem keysM_put {l : List (K × V)} (k : K) (v : V) (hn : (l.map (·.1)).Nodup) : ((putM l k v).map (·.1)).Nodup := by
  unfold putM
  split
  · have : (l.map (fun x => if x.1 = k then (k, v) else x)).map (·.1) = l.map (·.1) := by
      rw [List.map_map]
      refine List.map_congr_left fun x _ => ?_
      simp only [Function.comp]
      split
      · rename_i e; exact e.symm
      · rfl
    rw [this]; exact hn
  · rename_i hs
    rw [List.map_append, List.nodup_append]
    refine ⟨hn, by simp, ?_⟩
    intro a ha b hb
    obtain ⟨x, hx, rfl⟩ := List.mem_map.1 ha
    simp at hb
    subst hb
    exact getM_none (by simpa using hs) x hx
theorem keysM_ens {l : List (K × V)} (k : K) (z : V) (hn : (l.map (·.1)).Nodup) : ((ensM l k z).map (·.1)).Nodup := by
  unfold ensM
  split
  · exact hn
  · rename_i hs
    have := keysM_put k z hn
    rwa [putM_new (by simpa using hs)] at this
omit [DecidableEq K] in
theorem keysOk_ent {P : Program} {kt : TypeId} (hinj : ∀ a b, kc a = kc b → a = b) {l : List (K × V)} (hk : ∀ x ∈ l, ∃ lit, keyOf P kt (kc x.1) = some lit) (hn : (l.map (·.1)).Nodup) : KeysOk P kt (entC kc vc l) := by
  refine ⟨fun e he => ?_, ?_⟩
  · obtain ⟨x, hx, rfl⟩ := List.mem_map.1 he
    exact hk x hx
  · have : (entC kc vc l).map (·.1) = (l.map (·.1)).map kc := by simp [entC, List.map_map, Function.comp]
    rw [this]
    rw [List.nodup_iff_pairwise_ne, List.pairwise_map]
    rw [List.nodup_iff_pairwise_ne] at hn
    exact hn.imp fun h e => h (hinj _ _ e)

/-! ### typed maps -/

/-- A map's type: keys, values, which keys may be. -/
structure MT (P : Program) (t : TypeId) (kc : K → Value) (vc : V → D) (ok : K → Prop) (z : V) : Prop where
  ex : ∃ kt et, P.underlying t = some (.map kt et) ∧ Maps.Keyed P kt ∧ (∀ k, ok k → ∃ l, keyOf P kt (kc k) = some l) ∧ zeroV P et = some (vc z)
  inj : ∀ a b, kc a = kc b → a = b
def MOk (ok : K → Prop) (l : List (K × V)) : Prop := (∀ x ∈ l, ok x.1) ∧ (l.map (·.1)).Nodup
omit [DecidableEq K] in
theorem MOk.nil (ok : K → Prop) : MOk (V := V) ok [] := ⟨by simp, by simp⟩
theorem MOk.put {ok : K → Prop} {l : List (K × V)} (h : MOk ok l) {k : K} (hk : ok k) (v : V) : MOk ok (putM l k v) := by
  refine ⟨fun x hx => ?_, keysM_put k v h.2⟩
  unfold putM at hx
  split at hx
  · obtain ⟨y, hy, rfl⟩ := List.mem_map.1 hx
    split
    · exact hk
    · exact h.1 y hy
  · rcases List.mem_append.1 hx with h1 | h1
    · exact h.1 x h1
    · rw [List.mem_singleton.1 h1]; exact hk
theorem MOk.ens {ok : K → Prop} {l : List (K × V)} (h : MOk ok l) {k : K} (hk : ok k) (v : V) : MOk ok (ensM l k v) := by
  refine ⟨fun x hx => ?_, keysM_ens k v h.2⟩
  unfold ensM at hx
  split at hx
  · exact h.1 x hx
  · rcases List.mem_append.1 hx with h1 | h1
    · exact h.1 x h1
    · rw [List.mem_singleton.1 h1]; exact hk

variable {P : Program} {W : World} {f : FuncId} {N : Nat} {Q : D → Heap → Prop} {ws : Cl} {ops : Array Oper} {ol : List Oper} {kk : List Item} {env : Env} {H : Heap}
variable {dst : Option Tmp} {ty : TypeId} {pos : String} {aft : Array Edge} {ok : K → Prop} {z : V} {t : TypeId} {l : List (K × V)} {k : K} {b : Nat}

theorem runO_lookupM (M : MT P t kc vc ok z) {m x : Operand} (hm : ev env m = .v (.map (some b))) (hb : H b = some (.map (entC kc vc l))) (hl : MOk ok l) (hx : litV (ev env x) = some (kc k)) (hk : ok k)
    (h : RunO P W f N Q ops ol kk (put N env dst (vc ((getM l k).getD z))) H) : RunO P W f N Q ops (⟨dst, .lookup t m x false, ty, pos, aft, none⟩ :: ol) kk env H := by
  obtain ⟨⟨kt, et, hu, KK, hkey, hz⟩, hinj⟩ := M
  obtain ⟨lk, hlk⟩ := hkey k hk
  refine runO_lookup hu KK hz hm hb (keysOk_ent hinj (fun x hx => hkey _ (hl.1 x hx)) hl.2) hx hlk ?_
  rw [getE_ent hinj]
  cases hg : getM l k <;> rw [hg] at h <;> exact h
theorem runD_lookupM (M : MT P t kc vc ok z) {m x : Operand} (hm : ev env m = .v (.map (some b))) (hb : H b = some (.map (entC kc vc l))) (hl : MOk ok l) (hx : litV (ev env x) = some (kc k)) (hk : ok k)
    (h : RunD P W f N Q ws ops kk H ol (put N env dst (vc ((getM l k).getD z)))) : RunD P W f N Q ws ops kk H (⟨dst, .lookup t m x false, ty, pos, aft, none⟩ :: ol) env := by
  obtain ⟨⟨kt, et, hu, KK, hkey, hz⟩, hinj⟩ := M
  obtain ⟨lk, hlk⟩ := hkey k hk
  refine runD_lookup hu KK hz hm hb (keysOk_ent hinj (fun x hx => hkey _ (hl.1 x hx)) hl.2) hx hlk ?_
  rw [getE_ent hinj]
  cases hg : getM l k <;> rw [hg] at h <;> exact h
theorem runD_lookupMG (M : MT P t kc vc ok z) {m x : Operand} {j : Nat} {g : Bool} {cs : List Bool} (ht : guardA ops env j g = some cs) (hm : stripL cs (ev env m) = .v (.map (some b))) (hb : H b = some (.map (entC kc vc l))) (hl : MOk ok l) (hx : litV (stripL cs (ev env x)) = some (kc k)) (hk : ok k)
    (h : RunD P W f N Q ws ops kk H ol (put N env dst (wrapL cs (vc ((getM l k).getD z))))) : RunD P W f N Q ws ops kk H (⟨dst, .lookup t m x false, ty, pos, aft, some (j, g)⟩ :: ol) env := by
  obtain ⟨⟨kt, et, hu, KK, hkey, hz⟩, hinj⟩ := M
  obtain ⟨lk, hlk⟩ := hkey k hk
  refine runD_lookupG ht hu KK hz hm hb (keysOk_ent hinj (fun x hx => hkey _ (hl.1 x hx)) hl.2) hx hlk ?_
  rw [getE_ent hinj]
  cases hg : getM l k <;> rw [hg] at h <;> exact h
theorem runO_mapUpdateM (M : MT P t kc vc ok z) {m x y : Operand} {v : V} (hm : ev env m = .v (.map (some b))) (hb : H b = some (.map (entC kc vc l))) (hl : MOk ok l) (hx : litV (ev env x) = some (kc k)) (hk : ok k) (hy : ev env y = vc v)
    (h : RunO P W f N Q ops ol kk (put N env dst (.v undef)) (H.set b (.map (entC kc vc (putM l k v))))) : RunO P W f N Q ops (⟨dst, .mapUpdate t m x y, ty, pos, aft, none⟩ :: ol) kk env H := by
  obtain ⟨⟨kt, et, hu, KK, hkey, hz⟩, hinj⟩ := M
  obtain ⟨lk, hlk⟩ := hkey k hk
  refine runO_mapUpdate hu KK hm hb (keysOk_ent hinj (fun x hx => hkey _ (hl.1 x hx)) hl.2) hx hlk ?_
  rw [hy, putE_ent hinj]
  exact h
theorem runD_mapUpdateM (M : MT P t kc vc ok z) {m x y : Operand} {v : V} (hm : ev env m = .v (.map (some b))) (hb : H b = some (.map (entC kc vc l))) (hl : MOk ok l) (hx : litV (ev env x) = some (kc k)) (hk : ok k) (hy : ev env y = vc v)
    (h : RunD P W f N Q ws ops kk (H.set b (.map (entC kc vc (putM l k v)))) ol (put N env dst (.v undef))) : RunD P W f N Q ws ops kk H (⟨dst, .mapUpdate t m x y, ty, pos, aft, none⟩ :: ol) env := by
  obtain ⟨⟨kt, et, hu, KK, hkey, hz⟩, hinj⟩ := M
  obtain ⟨lk, hlk⟩ := hkey k hk
  refine runD_mapUpdate hu KK hm hb (keysOk_ent hinj (fun x hx => hkey _ (hl.1 x hx)) hl.2) hx hlk ?_
  rw [hy, putE_ent hinj]
  exact h
theorem runO_mapEntryM (M : MT P t kc vc ok z) {m x : Operand} (hm : ev env m = .v (.map (some b))) (hb : H b = some (.map (entC kc vc l))) (hl : MOk ok l) (hx : litV (ev env x) = some (kc k)) (hk : ok k)
    (h : RunO P W f N Q ops ol kk (put N env dst (.tup [vc ((getM l k).getD z), .v (.int .i64 (idxM l k : Int))])) (H.set b (.map (entC kc vc (ensM l k z))))) : RunO P W f N Q ops (⟨dst, .mapEntry t m x, ty, pos, aft, none⟩ :: ol) kk env H := by
  obtain ⟨⟨kt, et, hu, KK, hkey, hz⟩, hinj⟩ := M
  obtain ⟨lk, hlk⟩ := hkey k hk
  refine runO_mapEntry hu KK hz hm hb (keysOk_ent hinj (fun x hx => hkey _ (hl.1 x hx)) hl.2) hx hlk ?_
  rw [getE_ent hinj, idxE_ent hinj, ensE_ent hinj]
  cases hg : getM l k <;> rw [hg] at h <;> exact h
theorem runD_mapEntryM (M : MT P t kc vc ok z) {m x : Operand} (hm : ev env m = .v (.map (some b))) (hb : H b = some (.map (entC kc vc l))) (hl : MOk ok l) (hx : litV (ev env x) = some (kc k)) (hk : ok k)
    (h : RunD P W f N Q ws ops kk (H.set b (.map (entC kc vc (ensM l k z)))) ol (put N env dst (.tup [vc ((getM l k).getD z), .v (.int .i64 (idxM l k : Int))]))) : RunD P W f N Q ws ops kk H (⟨dst, .mapEntry t m x, ty, pos, aft, none⟩ :: ol) env := by
  obtain ⟨⟨kt, et, hu, KK, hkey, hz⟩, hinj⟩ := M
  obtain ⟨lk, hlk⟩ := hkey k hk
  refine runD_mapEntry hu KK hz hm hb (keysOk_ent hinj (fun x hx => hkey _ (hl.1 x hx)) hl.2) hx hlk ?_
  rw [getE_ent hinj, idxE_ent hinj, ensE_ent hinj]
  cases hg : getM l k <;> rw [hg] at h <;> exact h
/-- The store behind an entry that was made for it. -/
theorem runO_entryStoreM (M : MT P t kc vc ok z) {m s x : Operand} {v : V} (hm : ev env m = .v (.map (some b))) (hb : H b = some (.map (entC kc vc (ensM l k z)))) (hl : MOk ok l) (hs : ev env s = .v (.int .i64 (idxM l k : Int))) (hy : ev env x = vc v)
    (h : RunO P W f N Q ops ol kk (put N env dst (.v undef)) (H.set b (.map (entC kc vc (putM l k v))))) : RunO P W f N Q ops (⟨dst, .entryStore t m s x, ty, pos, aft, none⟩ :: ol) kk env H := by
  refine runO_entryStore hm hb hs (by rw [entC_length]; exact idxM_lt l k z) ?_
  rw [hy, setE_ent, setM_ensM hl.2]
  exact h
theorem runD_entryStoreM (M : MT P t kc vc ok z) {m s x : Operand} {v : V} (hm : ev env m = .v (.map (some b))) (hb : H b = some (.map (entC kc vc (ensM l k z)))) (hl : MOk ok l) (hs : ev env s = .v (.int .i64 (idxM l k : Int))) (hy : ev env x = vc v)
    (h : RunD P W f N Q ws ops kk (H.set b (.map (entC kc vc (putM l k v)))) ol (put N env dst (.v undef))) : RunD P W f N Q ws ops kk H (⟨dst, .entryStore t m s x, ty, pos, aft, none⟩ :: ol) env := by
  refine runD_entryStore hm hb hs (by rw [entC_length]; exact idxM_lt l k z) ?_
  rw [hy, setE_ent, setM_ensM hl.2]
  exact h
end
end Go.Sn
namespace Go.Sn
open Go Go.RowKit
set_option linter.unusedVariables false
set_option linter.unusedSimpArgs false

/-- A slice whose elements can be read: immutable ones, or the first of a row of ours. -/
inductive Src (H : Heap) (sz : Nat) (ys : List (List D)) : D → Prop
  | imm {d : D} (h : d.elems = some ys) : Src H sz ys d
  | row (b c : Nat) (rest : List D) (e : TypeId) (h : H b = some (.cells (ys.flatten ++ rest) e)) : Src H sz ys (.v (.slice (some ⟨b, 0, none⟩) ys.length c))

section
variable {P : Program} {W : World} {f : FuncId} {N : Nat} {Q : D → Heap → Prop} {ws : Cl} {ops : Array Oper} {l : List Oper} {o : Oper} {k : List Item} {env : Env} {H : Heap} {G : IG} {w : World}

theorem Src.read {sz : Nat} {ys : List (List D)} {d : D} {x : Value} (h : Src H sz ys d) (hI : Inv W G H w) (hx : Rep G x d) (hne : ys ≠ []) (hsy : ∀ ds ∈ ys, ds.length = sz) :
    ∃ b q c, ∃ news : List Value, x = .slice (some ⟨b, q, none⟩) ys.length c ∧ Reps G news ys.flatten ∧ (∀ j u, news[j]? = some u → w.cell? ⟨b, q + j, none⟩ = some u) ∧ ∀ u ∈ news, u.oneCell' = true := by
  cases h with
  | imm h =>
    rcases hx.inv_elems h with ⟨_, rfl⟩ | ⟨b, q, c, sz', hxv, hc, hsz', hcells⟩
    · exact absurd rfl hne
    · obtain ⟨news, hrep, hnews⟩ := hcells.reps
      refine ⟨b, q, c, news, hxv, hrep, fun j u hj => (hI.imm b _ u (hnews j u hj)).1, fun u hu => ?_⟩
      obtain ⟨j, hj, rfl⟩ := List.getElem_of_mem hu
      exact (hI.imm b _ _ (hnews j _ (List.getElem?_eq_getElem hj))).2
  | row b c rest e h =>
    obtain ⟨_, cs, hcs, hr, h1, hg⟩ := hI.res b _ h
    have ht : Reps G (cs.take ys.flatten.length) ys.flatten := by
      have := hr.take ys.flatten.length
      rwa [List.take_left] at this
    refine ⟨b, 0, c, cs.take ys.flatten.length, hx.inv_v, ht, fun j u hj => ?_, fun u hu => h1 u (List.mem_of_mem_take hu)⟩
    rw [List.getElem?_take] at hj
    split at hj
    · rw [cell_of_row w b _ _ e _ hcs]; simpa using hj
    · cases hj

theorem zeroCells_one {zs : Array Value} (h : ∀ v ∈ zs.toList, v.oneCell' = true) {n : Nat} : ∀ u ∈ (Builtin.zeroCells zs n).toList, u.oneCell' = true := by
  intro u hu
  unfold Builtin.zeroCells at hu
  simp only [Array.toList_map, List.mem_map, Array.mem_toList_iff, Array.mem_range] at hu
  obtain ⟨i, hi, rfl⟩ := hu
  have hpos : 0 < zs.size := by
    rcases Nat.eq_zero_or_pos zs.size with h0 | h0
    · rw [h0] at hi; omega
    · exact h0
  have hlt := Nat.mod_lt i hpos
  rw [getElem!_pos zs (i % zs.size) hlt]
  exact h _ (by simp)

/-- append to an empty slice without room: a row of ours. -/
theorem opOk_append_cells {ρ : Operand → D} {K : D → Heap → Prop} {s x : Operand} {t e sz by_ : Nat} {z : List D} {ys : List (List D)} (ho : o.op = .call ⟨.builtin .append, #[s, x], #[t, t]⟩)
    (hu : P.underlying t = some (.slice e)) (hsz : szT P e = some sz) (hby : bytesT P e = some by_) (hz : zeroT P e = some z) (hzl : z.length = sz) (hs : ρ s = .nil) (hx : Src H sz ys (ρ x))
    (hsy : ∀ ds ∈ ys, ds.length = sz) (hlen : ys.length * by_ ≤ 140737488355328) (hlen2 : ys.length ≤ maxLen) (hne : ys ≠ [])
    (hK : ∀ b cap rest, H b = none → ys.length ≤ cap → K (.v (.slice (some ⟨b, 0, none⟩) ys.length cap)) (H.set b (.cells (ys.flatten ++ rest) e))) : OpOk P W o ρ H K := by
  intro G a w next Qx hI hρ hnext
  obtain ⟨i, zv, hi, hisz, hiby, hiz, hzv⟩ := infoT hsz hby hz
  have hsv := hρ s (by simp [ho, Op.operands, Call.operands])
  rw [hs] at hsv
  obtain ⟨b, q, c, news, hxv, hrep, hcell0, hone⟩ := hx.read hI (hρ x (by simp [ho, Op.operands, Call.operands])) hne hsy
  have hnl : news.length = ys.length * i.size := by rw [hrep.1, elems_all hsy, hisz]
  have hpos : 0 < ys.length := List.length_pos_iff.2 hne
  have hcell : ∀ j u, news[j]? = some u → w.cell? ((⟨b, q, none⟩ : Addr).add j) = some u := fun j u hj => by rw [Addr.add_lit]; exact hcell0 j u hj
  have h63 : (ys.length : Int) ≤ 9223372036854775807 := by simp only [maxLen] at hlen2; omega
  let cap := grownCap w ys.length 0 e
  have hcap : ys.length ≤ cap := grownCap_ge w ys.length 0 e
  let w' := w.drew.alloc (.cells (news.toArray ++ Builtin.zeroCells zv.cells (cap - ys.length)) e)
  have hrun : (Builtin.append_ #[t, t] o.type #[a.eval s, a.eval x]).run P w = .ok (.slice (some ⟨w.heap.size, 0, none⟩) ys.length cap) w' := by
    rw [hxv]
    rcases hsv.inv_nil with hv | ⟨a', hv⟩
    · rw [hv]
      exact run_append_nil (P := P) w t o.type e i zv hu hi hiz ⟨b, q, none⟩ ys.length c news hnl hcell hpos h63 (by rw [hiby]; omega)
    · rw [hv]
      have := run_append_grow (P := P) w t o.type e i zv hu hi hiz a' 0 0 [] (by simp) (by simp) ⟨b, q, none⟩ ys.length c news hnl hcell (by omega) (by simpa using h63)
        (by rw [Nat.zero_add, nextslicecap_zero hpos, hiby]; omega)
      simp only [Nat.zero_add] at this
      simpa using this
  have hz1 : ∀ u ∈ (Builtin.zeroCells zv.cells (cap - ys.length)).toList, u.oneCell' = true := by
    intro u hu
    have hzz : ∀ v ∈ zv.cells.toList, v.oneCell' = true := by
      obtain ⟨x', hx', hr', h1'⟩ := zeroT_run (G := G) (P := P) (w := w) hz
      have : x' = zv := by
        simp [zeroValue, typeInfo, Sem.run_bind, hi, hiz] at hx'
        exact hx'.symm
      rw [← this]
      exact h1'
    exact zeroCells_one hzz u hu
  let rest := (Builtin.zeroCells zv.cells (cap - ys.length)).toList.map D.v
  have hI' := hI.drew.allocCells (news ++ (Builtin.zeroCells zv.cells (cap - ys.length)).toList) (ys.flatten ++ rest) e (hrep.append (Reps.self G _)) (fun u hu => by
    rcases List.mem_append.1 hu with h | h
    · exact hone u h
    · exact hz1 u h)
  have hw' : w' = w.drew.alloc (.cells (news ++ (Builtin.zeroCells zv.cells (cap - ys.length)).toList).toArray e) := by
    simp only [w']
    congr 2
    apply Array.ext'
    simp
  rw [← hw'] at hI'
  simp only [World.size_drew] at hI'
  exact wp_value (run_append_op ho hrun) (hnext _ _ _ _ _ (.refl G) hI' (.v _) (hK _ _ _ (hI.fresh (Nat.le_refl _)) hcap))

theorem run_equalIn_sl (n : Nat) {t e : Nat} (hu : P.underlying t = some (.slice e)) (a : Option Addr) (m c : Nat) : (Op.equalIn (n + 1) t (.slice a m c) (.slice none 0 0)).run P w = .ok a.isNone w := by
  cases a <;> simp [Op.equalIn, run_underlying hu]

/-- A slice against nil: an empty one may be either. -/
theorem opOk_sliceNil {ρ : Operand → D} {K : D → Heap → Prop} {t e yt : TypeId} {x : Operand} {xs : List (List D)} (ho : o.op = .binOp .eql t x (.const (.slice none 0 0)) yt) (hu : P.underlying t = some (.slice e)) (hx : (ρ x).elems = some xs)
    (hK : ∀ b : Bool, (b = true → xs = []) → K (.v (.bool b)) H) : OpOk P W o ρ H K := by
  intro G a w next Qx hI hρ hnext
  have hxr := hρ x (by simp [ho, Op.operands])
  have key : ∀ (v : Value) (b : Bool), a.eval x = v → (∀ cs, v ≠ .agg cs) → v ≠ .nilIface → (Op.equalIn 10000 t v (.slice none 0 0)).run P w = .ok b w → binOp .eql t v (.slice none 0 0) = (do pure (.bool (← Op.equal t v (.slice none 0 0)))) → (b = true → xs = []) → o.wp P a w next Qx := by
    intro v b hv h1 h2 h3 h4 h5
    refine wp_value (w' := w) (v := .bool b) ?_ (hnext _ _ _ _ _ (.refl G) hI (.v _) (hK b h5))
    simp only [execOp, ho, hv]
    refine execOp_v' ?_
    show (Sem.bind (eqGuard .eql t x (.const (.slice none 0 0)) v (.slice none 0 0)) fun _ => binOp .eql t v (.slice none 0 0)).run P w = _
    rw [Sem.run_bind', run_eqGuard_v .eql t x _ h1 h2]
    exact run_eql_of h3 h4
  rcases hxr.inv_elems hx with ⟨⟨ax, hv⟩, rfl⟩ | ⟨b, q, c, sz, hv, _, _, _⟩
  · cases ax with
    | none => exact key _ true hv (by simp) (by simp) (run_equalIn_sl 9999 hu none 0 0) rfl (fun _ => rfl)
    | some ad => exact key _ false hv (by simp) (by simp) (run_equalIn_sl 9999 hu (some ad) 0 0) rfl (fun _ => rfl)
  · exact key _ false hv (by simp) (by simp) (run_equalIn_sl 9999 hu _ _ _) rfl (fun e => by cases e)

/-- A literal whose room is ours. -/
theorem opOk_buildSliceOwn {ρ : Operand → D} {K : D → Heap → Prop} {t e n sz : Nat} {parts : Array (Nat × Operand)} {z : List D} (ho : o.op = .buildSlice t n parts) (hu : P.underlying t = some (.slice e))
    (hsz : szT P e = some sz) (hz : zeroT P e = some z) (hzl : z.length = sz) (hn : parts.toList.length = n) (hfull : fullParts (partsA ρ parts.toList) 0 = true)
    (hs : ∀ x ∈ partsA ρ parts.toList, x.2.cells.length = sz ∧ x.2.stor = true) (hle : n * sz ≤ 16777216)
    (hn0 : n ≤ maxLen) (hK : ∀ b, H b = none → K (.own b n ((partsA ρ parts.toList).map fun x => x.2.cells.map D.flat)) (H.set b (.grow e n n sz))) : OpOk P W o ρ H K := by
  intro G a w next Qx hI hρ hnext
  obtain ⟨x, hx, hrx, h1x⟩ := zeroT_run (w := w) (G := G) hz
  have hxs : x.cells.size = sz := by have := hrx.1; simp at this; omega
  let zero : Array Value := if n * sz = 0 then #[] else x.cells
  let init : Array Value := (Array.range (n * sz)).map (zero[· % zero.size]!)
  have hinit : init.size = n * sz := by simp [init]
  have hpl : (partsA ρ parts.toList).length = n := by simp [partsA, hn]
  have hfill := fillA_full (sz := sz) (partsA ρ parts.toList) 0 [] (init.toList.map .v) hfull hs (by simp) (by simp [hpl, hinit])
  simp only [List.nil_append] at hfill
  obtain ⟨cs', hcs', hr'⟩ := fillA_ok (G := G) (fun i => some (i * sz, sz)) _ (fun i x h => h) (partsA ρ parts.toList) (parts.toList.map fun x => (x.1, a.eval x.2)) _ _ init hfill (Reps.self G init.toList) (by simp [partsA]) (fun k p q hp hq => by
      simp only [partsA, List.getElem?_map] at hp hq
      cases hk : parts.toList[k]? with
      | none => rw [hk] at hp; simp at hp
      | some x => rw [hk] at hp hq; simp at hp hq; subst hp; subst hq; exact ⟨rfl, hρ _ (by simp only [ho, Op.operands, List.mem_toArray, List.mem_map]; exact ⟨_, List.mem_of_getElem? hk, rfl⟩)⟩)
  have hmap : (parts.map fun x => (x.1, a.eval x.2)).toList = parts.toList.map fun x => (x.1, a.eval x.2) := by simp
  have hrun : (execOp a.eval o).run P w = .ok (.value (.slice (some ⟨w.heap.size, 0, none⟩) n n)) (w.alloc (.cells cs' e)) := by
    have hle' : ¬ (2 ^ 24 < n * sz) := by omega
    simp only [execOp, ho]
    refine execOp_v' ?_
    simp only [Instr.buildSlice, Sem.run_bind, run_underlying hu, Result.andThen_ok, run_szT hsz, gt_iff_lt, if_neg hle', Sem.run_pure]
    by_cases h0 : n * sz = 0
    · have hz0 : zero = #[] := if_pos h0
      have hi0 : init = (Array.range (n * sz)).map ((#[] : Array Value)[· % (#[] : Array Value).size]!) := by simp only [init, hz0]
      rw [hi0] at hcs'
      simp only [if_pos h0, Sem.run_bind, Sem.run_pure, Result.andThen_ok]
      rw [hmap, hcs']
      simp [newRow]
    · have hz0 : zero = x.cells := if_neg h0
      have hi0 : init = (Array.range (n * sz)).map (x.cells[· % x.cells.size]!) := by simp only [init, hz0]
      rw [hi0] at hcs'
      simp only [if_neg h0, Sem.run_bind, Sem.run_pure, Result.andThen_ok, hx]
      rw [hmap, hcs']
      simp [newRow]
  unfold Oper.wp
  rw [hrun]
  have hone : ∀ c ∈ cs'.toList, c.oneCell' = true := by
    intro c hc
    obtain ⟨i, hi, rfl⟩ := List.getElem_of_mem hc
    have hi' : i < ((partsA ρ parts.toList).map fun x => x.2.cells).flatten.length := by rw [← hr'.1]; exact hi
    have hrep := hr'.2 i _ _ (List.getElem?_eq_getElem hi') (List.getElem?_eq_getElem hi)
    have hmem := List.getElem_mem hi'
    refine hrep.one ?_
    simp only [List.mem_flatten, List.mem_map] at hmem
    obtain ⟨cl, ⟨x, hx, rfl⟩, hin⟩ := hmem
    have := (hs x hx).2
    generalize ((partsA ρ parts.toList).map fun x => x.2.cells).flatten[i] = d at hin
    cases hxd : x.2 <;> simp [hxd, D.stor, D.one, D.cells] at this hin <;> first | (exact this _ hin) | (subst hin; simp [D.one]; try exact this)
  obtain ⟨hI', hG, hcells⟩ := hI.allocImm cs'.toList [] _ e hr'.flat hone
  simp only [List.append_nil, Array.toArray_toList] at hI'
  have hcsz : cs'.toList.length = n * sz := by
    have := hr'.1
    rw [this]
    have hall : ∀ x ∈ (partsA ρ parts.toList).map (fun x => x.2.cells), x.length = sz := by
      intro ds hds
      obtain ⟨x, hx, rfl⟩ := List.mem_map.1 hds
      exact (hs x hx).1
    rw [elems_all hall, List.length_map, hpl]
  refine hnext _ _ _ _ _ hG (hI'.add (b := w.heap.size) (r := .grow e n n sz) hI.below.size ⟨cs', heap_alloc_new w _, by simpa using hcsz, Nat.le_refl _, hn0, fun p hp => ?_⟩) ?_ (hK _ (hI.fresh (Nat.le_refl _)))
  · simp only [IG.add]
    rw [if_neg (by omega)]
    exact hI.gfresh (Nat.le_refl _) p
  · refine Rep.mkOwn (sz := sz) (by simp [hpl]) (Nat.le_refl _) ?_ ?_
    · intro ds hds
      simp only [List.mem_map] at hds
      obtain ⟨x, hx, rfl⟩ := hds
      simp [(hs x hx).1]
    · have : ((partsA ρ parts.toList).map fun x => x.2.cells.map D.flat).flatten = ((partsA ρ parts.toList).map fun x => x.2.cells).flatten.map D.flat := by
        simp [List.map_flatten, Function.comp_def]
      rw [this]
      exact hcells

section lits
variable {dst : Option Tmp} {ty : TypeId} {pos : String} {aft : Array Edge}
theorem runO_buildSliceOwn {t e n sz : Nat} {parts : Array (Nat × Operand)} {z : List D} (hu : P.underlying t = some (.slice e))
    (hsz : szT P e = some sz) (hz : zeroT P e = some z) (hzl : z.length = sz) (hn : parts.toList.length = n) (hfull : fullParts (partsA (ev env) parts.toList) 0 = true)
    (hs : (partsA (ev env) parts.toList).all (fun x => x.2.cells.length == sz && x.2.stor) = true) (hle : n * sz ≤ 16777216) (hn0 : n ≤ maxLen)
    (h : ∀ b, H b = none → RunO P W f N Q ops l k (put N env dst (.own b n ((partsA (ev env) parts.toList).map fun x => x.2.cells.map D.flat))) (H.set b (.grow e n n sz))) :
    RunO P W f N Q ops (⟨dst, .buildSlice t n parts, ty, pos, aft, none⟩ :: l) k env H :=
  runO_op rfl (opOk_buildSliceOwn rfl hu hsz hz hzl hn hfull (by simpa using hs) hle hn0 h)
theorem runO_sliceNil {t e yt : TypeId} {x : Operand} {xs : List (List D)} (hu : P.underlying t = some (.slice e)) (hx : (ev env x).elems = some xs)
    (h : ∀ b : Bool, (b = true → xs = []) → RunO P W f N Q ops l k (put N env dst (.v (.bool b))) H) :
    RunO P W f N Q ops (⟨dst, .binOp .eql t x (.const (.slice none 0 0)) yt, ty, pos, aft, none⟩ :: l) k env H := runO_op rfl (opOk_sliceNil rfl hu hx h)
theorem runO_append_cells {s x : Operand} {t e sz by_ : Nat} {z : List D} {ys : List (List D)}
    (hu : P.underlying t = some (.slice e)) (hsz : szT P e = some sz) (hby : bytesT P e = some by_) (hz : zeroT P e = some z) (hzl : z.length = sz) (hs : ev env s = .nil) (hx : Src H sz ys (ev env x))
    (hsy : ∀ ds ∈ ys, ds.length = sz) (hlen : ys.length * by_ ≤ 140737488355328) (hlen2 : ys.length ≤ maxLen) (hne : ys ≠ [])
    (h : ∀ b cap rest, H b = none → ys.length ≤ cap → RunO P W f N Q ops l k (put N env dst (.v (.slice (some ⟨b, 0, none⟩) ys.length cap))) (H.set b (.cells (ys.flatten ++ rest) e))) :
    RunO P W f N Q ops (⟨dst, .call ⟨.builtin .append, #[s, x], #[t, t]⟩, ty, pos, aft, none⟩ :: l) k env H :=
  runO_op rfl (opOk_append_cells rfl hu hsz hby hz hzl hs hx hsy hlen hlen2 hne h)
end lits

/-- The slices in cells of ours, only read from here on. -/
theorem Inv.flatCells {b : Nat} {ds : List D} {e : TypeId} (hI : Inv W G H w) (hb : H b = some (.cells ds e)) : Inv W G (H.set b (.cells (ds.map D.flat) e)) w := by
  obtain ⟨h1, cs, hcs, hr, h2, h3⟩ := hI.res b _ hb
  exact hI.add h1 ⟨cs, hcs, hr.flat, h2, h3⟩
theorem run_flatCells {t : List Item} {b : Nat} {ds : List D} {e : TypeId} (hb : H b = some (.cells ds e)) (h : RunA P W f N Q t env (H.set b (.cells (ds.map D.flat) e))) : RunA P W f N Q t env H :=
  fun G a w fr cs hI hE hN hd hfn hk => h G a w fr cs (hI.flatCells hb) hE hN hd hfn hk
theorem coll_stor {H0 H : Heap} {e sz : Nat} {xs : List (List D)} {d : D} (h : Coll H0 e sz xs d H) : d.stor = true ∧ d.cells = [d] ∧ d.one = true := by
  cases h with
  | none h => exact ⟨rfl, rfl, rfl⟩
  | some b cap hb => exact ⟨rfl, rfl, rfl⟩
theorem coll_set {H0 H : Heap} {e sz p : Nat} {xs : List (List D)} {d : D} {r r0 : Res} (h : Coll H0 e sz xs d H) (hp : H0 p = some r0) : Coll (H0.set p r) e sz xs d (H.set p r) := by
  cases h with
  | none h => exact .none h
  | some b cap hb =>
    have hne : p ≠ b := fun e1 => by subst e1; rw [hb] at hp; cases hp
    have hc : (H0.set b (.grow e xs.length cap sz)).set p r = (H0.set p r).set b (.grow e xs.length cap sz) := Heap.set_comm _ _ _ (fun e1 => hne e1.symm)
    rw [hc]
    exact .some b cap (by rw [Heap.set_other _ _ (fun e1 => hne e1.symm)]; exact hb)

/-- A row with room that nobody will write again. -/
theorem run_freezeR {t : List Item} {j b n c sz : Nat} {e : TypeId} {rest : List D} {xs : List (List D)} (hj : env j = .v (.slice (some ⟨b, 0, none⟩) n c)) (hb : H b = some (.cells (xs.flatten ++ rest) e)) (hn : xs.length = n)
    (hc : n ≤ c) (hl : ∀ x ∈ xs, x.length = sz) (h : RunA P W f N Q t (upd env j (.list xs)) (H.del b)) : RunA P W f N Q t env H := by
  intro G a w fr cs hI hE hN hd hfn hk
  obtain ⟨G', hle, hI', hcells⟩ := hI.freeze hb
  have hE' : RepEnv G' a (upd env j (.list xs)) := by
    intro k
    rw [upd_at]
    split
    · rename_i hkj
      have := hE j
      rw [hj] at this
      rw [hkj, this.inv_v]
      refine Rep.mkList hn hc hl ?_
      have := hcells.take xs.flatten.length
      rwa [List.take_left] at this
    · exact (hE k).mono hle
  obtain ⟨G1, w', d, H', v, fr', hS, hG, rest⟩ := h G' a w fr cs hI' hE' hN hd hfn hk
  exact ⟨G1, w', d, H', v, fr', hS, hle.trans hG, rest⟩
end

/-- A row that stands in cells of ours, and that nobody will write again. -/
theorem run_freezeIn {P : Program} {W : World} {f : FuncId} {N : Nat} {Q : D → Heap → Prop} {env : Env} {H : Heap} {t : List Item} {p b n c sz : Nat} {e e' : TypeId} {rest l1 l2 : List D} {xs : List (List D)} (hp : H p = some (.cells (l1 ++ .v (.slice (some ⟨b, 0, none⟩) n c) :: l2) e)) (hb : H b = some (.cells (xs.flatten ++ rest) e')) (hpb : p ≠ b)
    (hn : xs.length = n) (hc : n ≤ c) (hl : ∀ x ∈ xs, x.length = sz) (h : RunA P W f N Q t env ((H.del b).set p (.cells (l1 ++ .list xs :: l2) e))) : RunA P W f N Q t env H := by
  intro G a w fr cs hI hE hN hd hfn hk
  obtain ⟨G', hle, hI', hcells⟩ := hI.freeze hb
  have hp' : (H.del b) p = some (.cells (l1 ++ .v (.slice (some ⟨b, 0, none⟩) n c) :: l2) e) := by rw [Heap.del_at, if_neg hpb]; exact hp
  obtain ⟨h1, vs, hvs, hr, h2, h3⟩ := hI'.res p _ hp'
  have hr' : Reps G' vs (l1 ++ .list xs :: l2) := by
    refine ⟨by have := hr.1; simpa using this, fun k d v hd hv => ?_⟩
    by_cases hk : k = l1.length
    · subst hk
      have hd0 : (l1 ++ D.v (.slice (some ⟨b, 0, none⟩) n c) :: l2)[l1.length]? = some (.v (.slice (some ⟨b, 0, none⟩) n c)) := by simp
      have := (hr.2 _ _ v hd0 hv).inv_v
      simp at hd
      subst hd
      rw [this]
      refine Rep.mkList hn hc hl ?_
      have := hcells.take xs.flatten.length
      rwa [List.take_left] at this
    · refine hr.2 k d v ?_ hv
      rw [List.getElem?_append] at hd ⊢
      split
      · rename_i hlt; rw [if_pos hlt] at hd; exact hd
      · rename_i hlt
        rw [if_neg hlt] at hd
        cases hj : k - l1.length with
        | zero => omega
        | succ j => rw [hj] at hd; simpa using hd
  have hI2 : Inv W G' ((H.del b).set p (.cells (l1 ++ .list xs :: l2) e)) w := hI'.add h1 ⟨vs, hvs, hr', h2, h3⟩
  obtain ⟨G1, w', d, H', v, fr', hS, hG, rest⟩ := h G' a w fr cs hI2 (hE.mono hle) hN hd hfn hk
  exact ⟨G1, w', d, H', v, fr', hS, hle.trans hG, rest⟩

/-- An element of a row. -/
theorem row_elem {sz : Nat} (xs : List (List D)) (rest : List D) (hl : ∀ x ∈ xs, x.length = sz) {i : Nat} (hi : i < xs.length) : ((xs.flatten ++ rest).drop (i * sz)).take sz = xs.getD i [] := by
  have h1 := flatten_drop_take xs i hl hi
  have h2 : xs.flatten.length = xs.length * sz := elems_all hl
  have h3 : i * sz + sz ≤ xs.flatten.length := by
    rw [h2]
    have : (i + 1) * sz ≤ xs.length * sz := Nat.mul_le_mul_right _ hi
    rw [Nat.add_mul] at this
    omega
  rw [List.drop_append_of_le_length (by omega), List.take_append_of_le_length (by rw [List.length_drop]; omega)]
  exact h1
/-- .. written. -/
theorem row_put {sz : Nat} (xs : List (List D)) (rest : List D) (hl : ∀ x ∈ xs, x.length = sz) {i : Nat} (hi : i < xs.length) (y : List D) :
    (xs.flatten ++ rest).take (i * sz) ++ y ++ (xs.flatten ++ rest).drop (i * sz + sz) = (xs.set i y).flatten ++ rest := by
  induction xs generalizing i with
  | nil => simp at hi
  | cons x xs ih =>
    have hx : x.length = sz := hl x (by simp)
    cases i with
    | zero =>
      simp only [Nat.zero_mul, List.take_zero, List.nil_append, Nat.zero_add, List.set_cons_zero, List.flatten_cons, List.append_assoc]
      rw [List.drop_append_of_le_length (by omega), ← hx]
      simp
    | succ i =>
      have := ih (fun x hx => hl x (by simp [hx])) (i := i) (by simpa using hi)
      simp only [List.set_cons_succ, List.flatten_cons, List.append_assoc] at this ⊢
      rw [← this]
      have e1 : (i + 1) * sz = x.length + i * sz := by rw [Nat.add_mul, hx]; omega
      rw [e1, List.take_append, Nat.add_assoc, List.drop_append, List.take_of_length_le (by omega), List.drop_of_length_le (by omega)]
      simp
end Go.Sn
namespace Go.Sn
attribute [go_sem] Nat.mul_one List.length_replicate Int.cast_ofNat_Int List.getElem?_toArray List.getElem?_cons_zero List.getElem?_cons_succ List.getD_cons_zero List.getD_cons_succ List.getD_nil List.length_cons List.length_nil List.map_cons
  List.map_nil List.take_succ_cons List.take_zero List.take_nil List.drop_succ_cons List.drop_zero List.drop_nil List.cons_append List.nil_append List.append_nil List.all_cons
  List.all_nil Option.map_some Option.map_none Nat.reduceAdd Nat.reduceLT Nat.reduceEqDiff Nat.reduceLeDiff Nat.reduceMul Nat.zero_add Nat.add_zero reduceIte ite_true ite_false
  and_true true_and and_self Bool.and_self Bool.and_true Bool.true_and Bool.true_or Bool.false_or Bool.or_false Bool.or_true Bool.false_and Bool.and_false Bool.not_true
  Bool.not_false beq_self_eq_true eq_self reduceCtorEq implies_true false_implies forall_const Nat.lt_irrefl Nat.reduceSub Int.toNat_natCast Int.natCast_nonneg Int.ofNat_lt
  Int.ofNat_le Int.natCast_inj decide_true decide_false not_true_eq_false not_false_eq_true ne_eq Int.reduceEq Int.reduceNe Int.reduceLT Int.reduceLE Int.reduceToNat Int.reduceAdd
  Int.reduceMul Int.reduceSub Option.isSome_some Option.isSome_none
@[go_sem] theorem wrap_l0 : Go.IntKind.i64.wrap 0 = 0 := rfl
@[go_sem] theorem wrap_l1 : Go.IntKind.i64.wrap 1 = 1 := rfl
@[go_sem] theorem wrap_l2 : Go.IntKind.i64.wrap 2 = 2 := rfl
@[go_sem] theorem wrap_l3 : Go.IntKind.i64.wrap 3 = 3 := rfl
@[go_sem] theorem wrap_l4 : Go.IntKind.i64.wrap 4 = 4 := rfl
@[go_sem] theorem wrap_l5 : Go.IntKind.i64.wrap 5 = 5 := rfl
@[go_sem] theorem wrap_l6 : Go.IntKind.i64.wrap 6 = 6 := rfl
@[go_sem] theorem wrap_l7 : Go.IntKind.i64.wrap 7 = 7 := rfl
@[go_sem] theorem wrap_l8 : Go.IntKind.i64.wrap 8 = 8 := rfl
@[go_sem] theorem wrap_l9 : Go.IntKind.i64.wrap 9 = 9 := rfl
@[go_sem] theorem wrap_l10 : Go.IntKind.i64.wrap 10 = 10 := rfl
@[go_sem] theorem wrap_l11 : Go.IntKind.i64.wrap 11 = 11 := rfl
@[go_sem] theorem wrap_l12 : Go.IntKind.i64.wrap 12 = 12 := rfl
@[go_sem] theorem wrap_lm : Go.IntKind.i64.wrap (-1) = -1 := rfl
end Go.Sn
namespace Go.Sn
open Go Go.RowKit Go.ChangeShapes
set_option linter.unusedVariables false
set_option linter.unusedSimpArgs false

/-- The cells of the world as it is at the call: none of them turns. -/
def IG.of (W : World) : IG := fun b o => (W.cell? ⟨b, o, none⟩).filter (·.oneCell')

theorem IG.of_at {W : World} {b o : Nat} {x : Value} (h : W.cell? ⟨b, o, none⟩ = some x) (h1 : x.oneCell' = true) : IG.of W b o = some x := by
  simp [IG.of, h, h1]

theorem Inv.start (W : World) : Inv W (IG.of W) (fun _ => none) W := by
  refine ⟨Below.refl _ _, fun b o x h => ?_, fun b r h => by cases h⟩
  simp only [IG.of, Option.filter_eq_some_iff] at h
  exact h

/-- What a type's data read as. -/
structure Reads (P : Program) (W : World) (t : TypeId) (Pr : List D → Prop) : Prop where
  out : ∀ {H : Type} (enc : TypeId × Value → H) (fuel : Nat) (cs : List Value) (x : DataW H × List MemPlace), DataW.trod enc P W 0 (fun _ => true) true fuel t cs = some x →
    (∀ n ∈ x.1.weights P t, n ≤ reachBytes) → cs.length = P.cellsOf t → ∃ ds, Reps (IG.of W) cs ds ∧ (∀ c ∈ cs, c.oneCell' = true) ∧ Pr ds

section
variable {P : Program} {W : World} {t e : TypeId}

theorem Reads.mono {Pr Pr' : List D → Prop} (h : Reads P W t Pr) (hp : ∀ ds, Pr ds → Pr' ds) : Reads P W t Pr' :=
  ⟨fun enc fuel cs x hx hw hl => let ⟨ds, h1, h2, h3⟩ := h.out enc fuel cs x hx hw hl; ⟨ds, h1, h2, hp ds h3⟩⟩

theorem reads_bool (ht : P.underlying t = some .bool) : Reads P W t fun ds => ∃ b, ds = [.v (.bool b)] := by
  constructor
  intro H enc fuel cs x hx hw hl
  obtain ⟨b, rfl, rfl⟩ := DataW.trod_bool ht hx
  exact ⟨[.v (.bool b)], Reps.self _ [.bool b], by simp [Value.oneCell'], b, rfl⟩

theorem reads_int {k : IntKind} (ht : P.underlying t = some (.int k)) : Reads P W t fun ds => ∃ n, ds = [.v (.int k n)] ∧ (Lit.int k n).wf = true := by
  constructor
  intro H enc fuel cs x hx hw hl
  obtain ⟨n, rfl, rfl, hn⟩ := DataW.trod_int ht hx
  exact ⟨[.v (.int k n)], Reps.self _ [.int k n], by simp [Value.oneCell'], n, rfl, hn⟩

theorem reads_string (ht : P.underlying t = some .string) : Reads P W t fun ds => ∃ s : ByteArray, ds = [.v (.string s)] ∧ s.size ≤ 140737488351232 := by
  constructor
  intro H enc fuel cs x hx hw hl
  obtain ⟨s, rfl, rfl, hn⟩ := DataW.trod_string ht hx
  refine ⟨[.v (.string s)], Reps.self _ [.string s], by simp [Value.oneCell'], s, rfl, ?_⟩
  have := hw s.data.toList.length (by simp [DataW.weights])
  simpa [reachBytes] using this

theorem cells_some {a : Addr} {n : Nat} {cs : List Value} (h : W.cells? 0 a n = some cs) : cs.length = n ∧ ∀ k c, cs[k]? = some c → W.cell? (a.add k) = some c := by
  simp only [World.cells?, Nat.zero_le, if_true] at h
  refine ⟨by simpa using mapM_some_length h, fun k c hk => ?_⟩
  have hkl : k < n := by
    have := (List.getElem?_eq_some_iff.1 hk).1
    have h2 := mapM_some_length h
    simp at h2
    omega
  have := mapM_some_get h k k (by simp [hkl])
  rw [this, hk]

theorem weightsAll_mem {H : Type} {P : Program} {e : TypeId} : ∀ (xs : List (DataW H)) (x : DataW H), x ∈ xs → ∀ n ∈ x.weights P e, n ∈ DataW.weightsAll P e xs
  | [], x, h, _, _ => by cases h
  | y :: ys, x, h, n, hn => by
    simp only [DataW.weightsAll, List.mem_append]
    rcases List.mem_cons.1 h with rfl | h
    · exact .inl hn
    · exact .inr (weightsAll_mem ys x h n hn)

theorem elems_choose {Pr : List D → Prop} : ∀ (n : Nat) (f : Nat → List Value), (∀ i, i < n → ∃ ds, Reps (IG.of W) (f i) ds ∧ Pr ds) →
    ∃ xs : List (List D), xs.length = n ∧ (∀ i, i < n → Reps (IG.of W) (f i) (xs.getD i [])) ∧ ∀ x ∈ xs, Pr x
  | 0, f, _ => ⟨[], rfl, fun i h => by omega, fun x h => by cases h⟩
  | n + 1, f, h => by
    obtain ⟨d, h1, h2⟩ := h 0 (by omega)
    obtain ⟨xs, h3, h4, h5⟩ := elems_choose n (fun i => f (i + 1)) (fun i hi => h (i + 1) (by omega))
    refine ⟨d :: xs, by simp [h3], fun i hi => ?_, fun x hx => ?_⟩
    · cases i with
      | zero => simpa using h1
      | succ i => simpa using h4 i (by omega)
    · rcases List.mem_cons.1 hx with rfl | hx
      · exact h2
      · exact h5 x hx

theorem reads_slice {Pr : List D → Prop} {sz by_ : Nat} (ht : P.underlying t = some (.slice e)) (hsz : P.cellsOf e = sz) (hby : P.bytesOf e = by_) (hpos : 0 < sz) (h : Reads P W e Pr) :
    Reads P W t fun ds => ∃ xs : List (List D), ds = [.list xs] ∧ (∀ x ∈ xs, Pr x) ∧ (∀ x ∈ xs, x.length = sz) ∧ xs.length ≤ maxLen ∧ xs.length * by_ ≤ 140737488351232 := by
  subst hsz
  subst hby
  constructor
  intro H enc fuel cs x hx hw hl
  rcases DataW.trod_slice ht hx with ⟨rfl, rfl⟩ | ⟨a, len, cap, elems, rest, n, rfl, rfl, rfl, h0, h1, h2, h3, h4, h5, _⟩
  · exact ⟨[.list []], Reps.cons .listNil (Reps.nil _), by simp [Value.oneCell'], [], rfl, by simp, by simp, by simp, by simp⟩
  · have hbytes : len * P.bytesOf e ≤ 140737488351232 := by
      have := hw ((elems.length + rest.length) * P.bytesOf e) (by simp [DataW.weights, ht])
      refine Nat.le_trans (Nat.mul_le_mul_right _ ?_) (Nat.le_trans this (by simp [reachBytes]))
      omega
    obtain ⟨h5, h6⟩ := h5 rfl
    by_cases hcap : cap = 0
    · subst hcap
      obtain rfl : len = 0 := by omega
      exact ⟨[.list []], Reps.cons (.listE _) (Reps.nil _), by simp [Value.oneCell'], [], rfl, by simp, by simp, by simp, by simp⟩
    · have hspot : a.spot = none := by
        have hc : ∃ cs', W.cells? 0 (a.add 0) (P.cellsOf e) = some cs' := by
          by_cases hlen : len = 0
          · have := h6 0 (by omega)
            rw [List.getElem?_eq_getElem (by omega : 0 < rest.length), Option.bind_eq_some_iff] at this
            obtain ⟨cs', h7, _⟩ := this
            exact ⟨cs', by simpa [hlen] using h7⟩
          · have := h4 0 (by omega)
            rw [List.getElem?_eq_getElem (by omega : 0 < elems.length), Option.bind_eq_some_iff] at this
            obtain ⟨cs', h7, _⟩ := this
            exact ⟨cs', by simpa using h7⟩
        obtain ⟨cs', hc⟩ := hc
        obtain ⟨hc1, hc2⟩ := cells_some hc
        have := hc2 0 cs'[0] (List.getElem?_eq_getElem (by omega))
        simpa [Addr.add] using World.cell?_spot this
      obtain ⟨b, o, spot⟩ := a
      simp only at hspot
      subst hspot
      have hg : ∀ i, i < len → ∃ ds, Reps (IG.of W) ((List.range (P.cellsOf e)).map fun k => (IG.of W b (o + i * P.cellsOf e + k)).getD default) ds ∧
          (Pr ds ∧ ds.length = P.cellsOf e ∧ ∀ k, k < P.cellsOf e → ∃ c, IG.of W b (o + i * P.cellsOf e + k) = some c) := by
        intro i hi
        have h7 := h4 i hi
        rw [List.getElem?_eq_getElem (by omega : i < elems.length), Option.bind_eq_some_iff] at h7
        obtain ⟨cs', h7, h8⟩ := h7
        obtain ⟨hl', hcell⟩ := cells_some h7
        have hwe : ∀ m ∈ (elems[i]'(by omega)).1.weights P e, m ≤ reachBytes := fun m hm => hw m (by
          simp only [DataW.weights, ht, List.mem_cons, List.mem_append]
          exact .inr (.inl (weightsAll_mem _ _ (List.mem_map_of_mem (List.getElem_mem _)) m hm)))
        obtain ⟨ds, hr, hone, hp⟩ := h.out enc n cs' _ h8 hwe hl'
        have hof : ∀ k (hk : k < cs'.length), IG.of W b (o + i * P.cellsOf e + k) = some cs'[k] := fun k hk => by
          have := hcell k _ (List.getElem?_eq_getElem hk)
          rw [Addr.add_lit, Addr.add_lit] at this
          exact IG.of_at this (hone _ (List.getElem_mem _))
        have hcs : ((List.range (P.cellsOf e)).map fun k => (IG.of W b (o + i * P.cellsOf e + k)).getD default) = cs' := by
          apply List.ext_getElem (by simp [hl'])
          intro k h1 h2
          simp [hof k h2]
        refine ⟨ds, by rw [hcs]; exact hr, hp, by rw [← hr.1, hl'], fun k hk => ⟨_, hof k (by omega)⟩⟩
      obtain ⟨xs, hxl, hxr, hxp⟩ := elems_choose (W := W) (Pr := fun ds => Pr ds ∧ ds.length = P.cellsOf e) len (fun i => (List.range (P.cellsOf e)).map fun k => (IG.of W b (o + i * P.cellsOf e + k)).getD default) (fun i hi => let ⟨ds, k1, k2, k3, _⟩ := hg i hi; ⟨ds, k1, k2, k3⟩)
      have hcells : CellsAt (IG.of W) b o xs.flatten := by
        intro k d hd
        have hflen : xs.flatten.length = len * P.cellsOf e := by rw [← hxl]; exact elems_all fun x hx => (hxp x hx).2
        have hk : k < len * P.cellsOf e := by rw [← hflen]; exact (List.getElem?_eq_some_iff.1 hd).1
        have hdiv : k / P.cellsOf e < len := Nat.div_lt_of_lt_mul (by rw [Nat.mul_comm]; exact hk)
        have hmod : k % P.cellsOf e < P.cellsOf e := Nat.mod_lt _ hpos
        have hkk : k / P.cellsOf e * P.cellsOf e + k % P.cellsOf e = k := by rw [Nat.mul_comm]; exact Nat.div_add_mod k _
        have hel := flatten_drop_take xs (k / P.cellsOf e) (fun x hx => (hxp x hx).2) (by omega)
        have hd' : (xs.getD (k / P.cellsOf e) [])[k % P.cellsOf e]? = some d := by
          rw [← hel, List.getElem?_take, if_pos hmod, List.getElem?_drop, hkk, hd]
        have hmem : xs.getD (k / P.cellsOf e) [] ∈ xs := by
          simp [List.getD, List.getElem?_eq_getElem (by omega : k / P.cellsOf e < xs.length)]
        obtain ⟨c, hc⟩ := hxr (k / P.cellsOf e) hdiv |>.get hd'
        obtain ⟨c0, hc0⟩ := (hg (k / P.cellsOf e) hdiv).choose_spec.2.2.2 (k % P.cellsOf e) hmod
        refine ⟨c, ?_, hc.2⟩
        have := hc.1
        simp [hmod] at this
        rw [Nat.add_assoc, hkk] at this hc0
        rw [hc0] at this ⊢
        simpa using this
      refine ⟨[.list xs], Reps.cons (Rep.mkList hxl h1 (fun x hx => (hxp x hx).2) hcells) (Reps.nil _), by simp [Value.oneCell'], xs, rfl, fun x hx => (hxp x hx).1, fun x hx => (hxp x hx).2, by omega, by rw [hxl]; exact hbytes⟩

theorem weightsEach_mem {H : Type} {P : Program} : ∀ (ts : List TypeId) (xs : List (DataW H)) (i : Nat) (t : TypeId) (x : DataW H), ts[i]? = some t → xs[i]? = some x → ∀ n ∈ x.weights P t, n ∈ DataW.weightsEach P ts xs
  | [], xs, i, t, x, h, _, _, _ => by simp at h
  | t' :: ts, [], i, t, x, _, h, _, _ => by simp at h
  | t' :: ts, y :: ys, 0, t, x, h1, h2, n, hn => by
    simp at h1 h2; subst h1; subst h2
    simp only [DataW.weightsEach, List.mem_append]
    exact .inl hn
  | t' :: ts, y :: ys, i + 1, t, x, h1, h2, n, hn => by
    simp only [DataW.weightsEach, List.mem_append]
    exact .inr (weightsEach_mem ts ys i t x (by simpa using h1) (by simpa using h2) n hn)

/-- The fields of a struct, from the cell `o` on. -/
structure ReadsF (P : Program) (W : World) (o : Nat) (fs : List Field) (n : Nat) (Pr : List D → Prop) : Prop where
  out : ∀ {H : Type} (enc : TypeId × Value → H) (fuel : Nat) (cs : List Value) (xs : List (DataW H × List MemPlace)), xs.length = fs.length →
    (∀ (i : Nat) (f : Field), fs[i]? = some f → DataW.trod enc P W 0 (fun _ => true) true fuel f.type ((cs.drop f.offset).take (P.cellsOf f.type)) = xs[i]?) →
    (∀ (i : Nat) (f : Field) (x : DataW H × List MemPlace), fs[i]? = some f → xs[i]? = some x → ∀ n ∈ x.1.weights P f.type, n ≤ reachBytes) →
    cs.length = n → ∃ ds, Reps (IG.of W) (cs.drop o) ds ∧ (∀ c ∈ cs.drop o, c.oneCell' = true) ∧ Pr ds

theorem readsF_nil {n : Nat} : ReadsF P W n [] n fun ds => ds = [] := by
  constructor
  intro H enc fuel cs xs _ _ _ hl
  refine ⟨[], ?_, ?_, rfl⟩
  · rw [List.drop_eq_nil_of_le (by omega)]; exact Reps.nil _
  · rw [List.drop_eq_nil_of_le (by omega)]; simp

theorem readsF_cons {o sz n : Nat} {f : Field} {fs : List Field} {P1 P2 : List D → Prop} (ho : f.offset = o) (hsz : P.cellsOf f.type = sz) (hn : o + sz ≤ n) (h1 : Reads P W f.type P1) (h2 : ReadsF P W (o + sz) fs n P2) :
    ReadsF P W o (f :: fs) n fun ds => ∃ d1 d2, ds = d1 ++ d2 ∧ P1 d1 ∧ P2 d2 := by
  subst hsz
  subst ho
  constructor
  intro H enc fuel cs xs hxl hx hw hl
  cases xs with
  | nil => simp at hxl
  | cons x xs =>
    obtain ⟨d1, k1, k2, k3⟩ := h1.out enc fuel _ x (hx 0 f rfl) (hw 0 f x rfl rfl) (by simp; omega)
    obtain ⟨d2, k4, k5, k6⟩ := h2.out enc fuel cs xs (by simpa using hxl) (fun i g hg => by simpa using hx (i + 1) g (by simpa using hg)) (fun i g y hg hy => hw (i + 1) g y (by simpa using hg) (by simpa using hy)) hl
    have hcs : cs.drop f.offset = (cs.drop f.offset).take (P.cellsOf f.type) ++ cs.drop (f.offset + P.cellsOf f.type) := by
      rw [← List.drop_drop, List.take_append_drop]
    refine ⟨d1 ++ d2, by rw [hcs]; exact k1.append k4, ?_, d1, d2, rfl, k3, k6⟩
    rw [hcs]
    intro c hc
    rcases List.mem_append.1 hc with hc | hc
    · exact k2 c hc
    · exact k5 c hc

theorem reads_struct {fs : Array Field} {fl : List Field} {n : Nat} {Pr : List D → Prop} (ht : P.underlying t = some (.struct fs)) (hfl : fs.toList = fl) (hn : P.cellsOf t = n) (h : ReadsF P W 0 fl n Pr) : Reads P W t Pr := by
  subst hfl
  constructor
  intro H enc fuel cs x hx hw hl
  obtain ⟨xs, m, rfl, rfl, hcl, hxl, hall⟩ := DataW.trod_struct ht hx
  obtain ⟨ds, h1, h2, h3⟩ := h.out enc m cs xs (by simpa using hxl) (fun i f hf => hall i f (by simpa using hf)) (fun i f x hf hx n hn => hw n (by
    simp only [DataW.weights, ht]
    exact weightsEach_mem _ _ i f.type x.1 (by rw [List.getElem?_map, hf]; rfl) (by rw [List.getElem?_map, hx]; rfl) n hn)) (by omega)
  exact ⟨ds, by simpa using h1, by simpa using h2, h3⟩

/-- An argument of a type of one cell. -/
theorem reads_arg1 {H : Type} {enc : TypeId × Value → H} {v : Value} {d : DataW H} {p : List MemPlace} {Pr : List D → Prop} (h : Reads P W t Pr) (hv : v.cells = #[v]) (hone : P.cellsOf t = 1)
    (ht : DataW.Trod enc P W 0 (fun _ => true) true t v d p) (hw : ∀ n ∈ d.weights P t, n ≤ reachBytes) : ∃ a, Rep (IG.of W) v a ∧ Pr [a] := by
  obtain ⟨fuel, ht⟩ := ht
  rw [hv] at ht
  obtain ⟨ds, h1, h2, h3⟩ := h.out enc fuel _ _ ht hw (by simp [hone])
  match ds, h1, h3 with
  | [a], h1, h3 => exact ⟨a, h1.2 0 a v rfl rfl, h3⟩
  | [], h1, _ => exact absurd h1.1 (by simp)
  | _ :: _ :: _, h1, _ => exact absurd h1.1 (by simp)

/-- An argument that is a struct. -/
theorem reads_argS {H : Type} {enc : TypeId × Value → H} {cs : Array Value} {d : DataW H} {p : List MemPlace} {Pr : List D → Prop} (h : Reads P W t Pr) (hsz : cs.size = P.cellsOf t)
    (ht : DataW.Trod enc P W 0 (fun _ => true) true t (.agg cs) d p) (hw : ∀ n ∈ d.weights P t, n ≤ reachBytes) : ∃ ds, Rep (IG.of W) (.agg cs) (.agg ds) ∧ Pr ds := by
  obtain ⟨fuel, ht⟩ := ht
  obtain ⟨ds, h1, h2, h3⟩ := h.out enc fuel _ _ ht hw (by simpa [Value.cells] using hsz)
  exact ⟨ds, by simpa [Value.cells] using Rep.mkAgg h1, h3⟩

theorem okWide_structS {fs : Array Field} {v : Value} {base : Nat} (ht : P.underlying t = some (.struct fs)) (h : Value.okWide P W .any base t v) : ∃ cs, v = .agg cs ∧ cs.size = P.cellsOf t := by
  simp only [Value.okWide, ht] at h
  obtain ⟨cs, h1, h2, _⟩ := h
  exact ⟨cs, h1, h2⟩

theorem okWide_one {v : Value} {base : Nat} (ht : (∃ k, P.underlying t = some (.int k)) ∨ P.underlying t = some .bool ∨ P.underlying t = some .string ∨ ∃ e, P.underlying t = some (.slice e))
    (h : Value.okWide P W .any base t v) : v.cells = #[v] := by
  rcases ht with ⟨k, ht⟩ | ht | ht | ⟨e, ht⟩ <;> simp only [Value.okWide, ht, Cell.okWide, Cell.ok] at h <;> cases v <;> simp_all [Value.cells]

theorem weights_each {H : Type} {ts : List TypeId} {xs : List (DataW H)} (h : (DataW.weightsEach P ts xs).all (· ≤ reachBytes) = true) {i : Nat} {t : TypeId} {x : DataW H} (ht : ts[i]? = some t) (hx : xs[i]? = some x) :
    ∀ n ∈ x.weights P t, n ≤ reachBytes := fun n hn => by
  have := List.all_eq_true.1 h n (weightsEach_mem ts xs i t x ht hx n hn)
  simpa using this

/-- What a law's proof gives, as the row asks for it. -/
theorem CallA.law {f : FuncId} {vs : List Value} {ds : List D} (h : CallA P W f ds (fun _ => none) fun r _ => r = .v (.bool true)) (hr : Reps (IG.of W) vs ds) :
    Calls P f vs.toArray W fun e w' => e = .returned (.bool true) ∧ Below W.heap.size W w' := by
  refine (h _ vs W (Inv.start W) hr).mono ?_
  rintro e w' ⟨G', v, d, H', rfl, _, hI, hR, rfl⟩
  cases hR.inv_v
  exact ⟨rfl, hI.below⟩
end
end Go.Sn
namespace Go.Sn
open Go Go.RowKit
set_option linter.unusedVariables false
set_option linter.unusedSimpArgs false

/-- What is read in a world in which nothing turns. -/
def View (H : Heap) (d d' : D) : Prop := ∀ (W : World) (G : IG) (w : World) (x : Value), Inv W G H w → Rep G x d → Rep (IG.of w) x d'
def ViewL (H : Heap) (ds ds' : List D) : Prop := ds.length = ds'.length ∧ ∀ (k : Nat) (d d' : D), ds[k]? = some d → ds'[k]? = some d' → View H d d'

theorem Inv.le_of {W : World} {G : IG} {H : Heap} {w : World} (h : Inv W G H w) : G.le (IG.of w) := fun b o x hx => IG.of_at (h.imm b o x hx).1 (h.imm b o x hx).2

section
variable {H : Heap}
theorem View.refl (d : D) : View H d d := fun W G w x hI hr => hr.mono hI.le_of
theorem View.flat {d d' : D} (h : View H d d') : View H d d'.flat := fun W G w x hI hr => (h W G w x hI hr).flat
theorem ViewL.nil : ViewL H [] [] := ⟨rfl, fun k d d' h => by simp at h⟩
theorem ViewL.cons {d d' : D} {ds ds' : List D} (h : View H d d') (hs : ViewL H ds ds') : ViewL H (d :: ds) (d' :: ds') := by
  refine ⟨by simp [hs.1], fun k e e' he he' => ?_⟩
  cases k with
  | zero => simp at he he'; subst he; subst he'; exact h
  | succ k => exact hs.2 k e e' (by simpa using he) (by simpa using he')
theorem ViewL.refl (ds : List D) : ViewL H ds ds := ⟨rfl, fun k d d' h h' => by rw [h] at h'; cases h'; exact View.refl d⟩
theorem ViewL.append {as as' bs bs' : List D} (h : ViewL H as as') (k : ViewL H bs bs') : ViewL H (as ++ bs) (as' ++ bs') := by
  refine ⟨by simp [h.1, k.1], fun i d d' hd hd' => ?_⟩
  rw [List.getElem?_append] at hd hd'
  rw [← h.1] at hd'
  split at hd
  · rename_i hi; rw [if_pos hi] at hd'; exact h.2 i d d' hd hd'
  · rename_i hi; rw [if_neg hi] at hd'; exact k.2 _ d d' hd hd'
theorem ViewL.reps {W : World} {G : IG} {w : World} {ds ds' : List D} (h : ViewL H ds ds') (hI : Inv W G H w) {vs : List Value} (hr : Reps G vs ds) : Reps (IG.of w) vs ds' := by
  refine ⟨hr.1.trans h.1, fun k d' c hd' hc => ?_⟩
  have hk : k < ds.length := by rw [h.1]; exact (List.getElem?_eq_some_iff.1 hd').1
  exact h.2 k ds[k] d' (List.getElem?_eq_getElem hk) hd' W G w c hI (hr.2 k _ c (List.getElem?_eq_getElem hk) hc)

theorem View.agg {ds ds' : List D} (h : ViewL H ds ds') : View H (.agg ds) (.agg ds') := by
  intro W G w x hI hr
  obtain ⟨cs, rfl, hcs⟩ := hr.inv_agg
  exact Rep.mkAgg (h.reps hI hcs)

/-- Cells of ours, as if they were immutable. -/
theorem View.cells {W : World} {G : IG} {w : World} {b o : Nat} {ds ds' rest : List D} {e : TypeId} (hI : Inv W G H w) (hb : H b = some (.cells ds e)) (h : ViewL H ((ds.drop o).take ds'.length) ds') : CellsAt (IG.of w) b o ds' := by
  obtain ⟨_, cs, hcs, hr, h1, _⟩ := hI.res b _ hb
  intro k d' hd'
  have hk : k < ((ds.drop o).take ds'.length).length := by rw [h.1]; exact (List.getElem?_eq_some_iff.1 hd').1
  have hd : ((ds.drop o).take ds'.length)[k]? = some ((ds.drop o).take ds'.length)[k] := List.getElem?_eq_getElem hk
  have hd2 : ds[o + k]? = some ((ds.drop o).take ds'.length)[k] := by
    rw [List.getElem?_take] at hd
    split at hd
    · rw [List.getElem?_drop] at hd; exact hd
    · cases hd
  obtain ⟨c, hc, hrc⟩ := hr.get hd2
  refine ⟨c, IG.of_at ?_ (h1 c (List.mem_of_getElem? hc)), h.2 k _ d' hd hd' W G w c hI hrc⟩
  rw [cell_of_row w b _ _ e _ hcs]
  simpa using hc

theorem View.row {b n c sz : Nat} {e : TypeId} {xs xs' : List (List D)} {rest : List D} (hb : H b = some (.cells (xs.flatten ++ rest) e)) (hn : xs'.length = n) (hc : n ≤ c) (hl : ∀ y ∈ xs', y.length = sz) (h : ViewL H xs.flatten xs'.flatten) :
    View H (.v (.slice (some ⟨b, 0, none⟩) n c)) (.list xs') := by
  intro W G w x hI hr
  rw [hr.inv_v]
  refine Rep.mkList hn hc hl (View.cells (rest := rest) hI hb ?_)
  rw [List.drop_zero, ← h.1, List.take_left]
  exact h
theorem View.ptr {b o : Nat} {ds ds' : List D} {e : TypeId} (hb : H b = some (.cells ds e)) (h : ViewL H ((ds.drop o).take ds'.length) ds') : View H (.v (.pointer (some ⟨b, o, none⟩))) (.ip ds') := by
  intro W G w x hI hr
  rw [hr.inv_v]
  exact Rep.mkIp (View.cells (rest := []) hI hb h)
theorem View.ptr0 {b : Nat} {ds ds' : List D} {e : TypeId} (hb : H b = some (.cells ds e)) (h : ViewL H ds ds') : View H (.v (.pointer (some ⟨b, 0, none⟩))) (.ip ds') :=
  View.ptr hb (by rw [List.drop_zero, List.take_of_length_le (by rw [h.1]; exact Nat.le_refl _)]; exact h)
theorem View.nilL : View H (.v (.slice none 0 0)) (.list []) := fun W G w x hI hr => by rw [hr.inv_v]; exact .listNil

/-- A result that hangs on no memory. -/
def Pl (r : D) : Prop := ∀ (G G' : IG) (x : Value), Rep G x r → Rep G' x r
theorem Pl.v (x : Value) : Pl (.v x) := fun G G' y h => by rw [h.inv_v]; exact .v x
theorem Pl.nil : Pl .nil := fun G G' y h => by
  rcases h.inv_nil with rfl | ⟨a, rfl⟩
  · exact .nil0
  · exact .nil1 a
theorem Pl.listNil : Pl (.list []) := fun G G' y h => by
  rcases h.inv_list with ⟨⟨a, rfl⟩, _⟩ | ⟨b, o, c, sz, rfl, _, _, _⟩
  · exact .listE a
  · exact Rep.mkList (sz := 0) rfl (Nat.zero_le _) (by simp) (fun k d hd => by simp at hd)
def PlL (ds : List D) : Prop := ∀ d ∈ ds, Pl d
theorem PlL.reps {ds : List D} (h : PlL ds) {G G' : IG} {vs : List Value} (hr : Reps G vs ds) : Reps G' vs ds :=
  ⟨hr.1, fun k d c hd hc => h d (List.mem_of_getElem? hd) G G' c (hr.2 k d c hd hc)⟩
theorem Pl.agg {ds : List D} (h : PlL ds) : Pl (.agg ds) := fun G G' y hr => by
  obtain ⟨cs, rfl, hcs⟩ := hr.inv_agg
  exact Rep.mkAgg (h.reps hcs)
theorem Pl.tup {ds : List D} (h : PlL ds) : Pl (.tup ds) := fun G G' y hr => by
  obtain ⟨cs, rfl, hcs⟩ := hr.inv_tup
  exact Rep.mkTup (h.reps hcs)
theorem PlL.nil : PlL [] := fun d h => by cases h
theorem PlL.cons {d : D} {ds : List D} (h : Pl d) (hs : PlL ds) : PlL (d :: ds) := fun e he => by
  rcases List.mem_cons.1 he with rfl | he
  · exact h
  · exact hs e he
theorem PlL.map {α : Type} {f : α → D} (h : ∀ a, Pl (f a)) (l : List α) : PlL (l.map f) := fun d hd => by
  obtain ⟨a, _, rfl⟩ := List.mem_map.1 hd
  exact h a

/-- THE LOAN. -/
theorem CallA.borrow {P : Program} {W : World} {f : FuncId} {ds ds' : List D} {r : D} (hc : ∀ W' : World, CallA P W' f ds' (fun _ => none) fun d _ => d = r) (hv : ViewL H ds ds') (hr : Pl r) :
    CallA P W f ds H fun d H' => d = r ∧ H' = H := by
  intro G vs w hI hR
  refine (hc w (IG.of w) vs w (Inv.start w) (hv.reps hI hR)).mono fun e w' ⟨G', v, d, H', he, hG, hI', hR', hd⟩ => ?_
  subst hd
  have hb := hI'.below
  refine ⟨G, v, d, H, he, .refl G, ⟨hI.below.trans ⟨hb.os, hb.tape, hb.output, hb.size, fun k hk => hb.block k (by have := hI.below.size; omega)⟩, fun b o x hx => ⟨?_, (hI.imm b o x hx).2⟩, fun b q hq => ⟨(hI.res b q hq).1, (hI.res b q hq).2.same (hb.block b (hI.res b q hq).2.lt)⟩⟩, hr _ _ v hR', rfl, rfl⟩
  have h1 := (hI.imm b o x hx).1
  have hlt := World.block_lt_of_cell? w _ h1
  rw [← h1]
  simp only at hlt
  simp only [World.cell?, hb.block b hlt]
end
end Go.Sn
namespace Go.Sn
open Go Go.RowKit
set_option linter.unusedVariables false
set_option linter.unusedSimpArgs false

theorem Heap.del_set_same (H : Heap) (b : Nat) (r : Res) : (H.del b).set b r = H.set b r := by
  funext k
  simp only [Heap.set, Heap.del]
  split <;> simp_all

section
variable {P : Program} {W : World} {f : FuncId} {N : Nat} {Q : D → Heap → Prop} {ws : Cl} {ops : Array Oper} {l : List Oper} {o : Oper} {k : List Item} {env : Env} {H : Heap} {G : IG} {w : World}

theorem zeroCells_len (zs : Array Value) (n : Nat) : (Builtin.zeroCells zs n).toList.length = n * zs.size := by
  rw [Array.length_toList, size_zeroCells]

/-- append to an empty slice without room: a row of ours, its room known. -/
theorem opOk_append_cellsR {ρ : Operand → D} {K : D → Heap → Prop} {s x : Operand} {t e sz by_ : Nat} {z : List D} {ys : List (List D)} (ho : o.op = .call ⟨.builtin .append, #[s, x], #[t, t]⟩)
    (hu : P.underlying t = some (.slice e)) (hsz : szT P e = some sz) (hby : bytesT P e = some by_) (hz : zeroT P e = some z) (hzl : z.length = sz) (hs : ρ s = .nil) (hx : Src H sz ys (ρ x))
    (hsy : ∀ ds ∈ ys, ds.length = sz) (hlen : ys.length * by_ ≤ 140737488355328) (hlen2 : ys.length ≤ maxLen) (hne : ys ≠ [])
    (hK : ∀ b cap rest, H b = none → ys.length ≤ cap → rest.length = (cap - ys.length) * sz → K (.v (.slice (some ⟨b, 0, none⟩) ys.length cap)) (H.set b (.cells (ys.flatten ++ rest) e))) : OpOk P W o ρ H K := by
  intro G a w next Qx hI hρ hnext
  obtain ⟨i, zv, hi, hisz, hiby, hiz, hzv⟩ := infoT hsz hby hz
  have hsv := hρ s (by simp [ho, Op.operands, Call.operands])
  rw [hs] at hsv
  obtain ⟨b, q, c, news, hxv, hrep, hcell0, hone⟩ := hx.read hI (hρ x (by simp [ho, Op.operands, Call.operands])) hne hsy
  have hnl : news.length = ys.length * i.size := by rw [hrep.1, elems_all hsy, hisz]
  have hpos : 0 < ys.length := List.length_pos_iff.2 hne
  have hcell : ∀ j u, news[j]? = some u → w.cell? ((⟨b, q, none⟩ : Addr).add j) = some u := fun j u hj => by rw [Addr.add_lit]; exact hcell0 j u hj
  have h63 : (ys.length : Int) ≤ 9223372036854775807 := by simp only [maxLen] at hlen2; omega
  let cap := grownCap w ys.length 0 e
  have hcap : ys.length ≤ cap := grownCap_ge w ys.length 0 e
  let w' := w.drew.alloc (.cells (news.toArray ++ Builtin.zeroCells zv.cells (cap - ys.length)) e)
  have hrun : (Builtin.append_ #[t, t] o.type #[a.eval s, a.eval x]).run P w = .ok (.slice (some ⟨w.heap.size, 0, none⟩) ys.length cap) w' := by
    rw [hxv]
    rcases hsv.inv_nil with hv | ⟨a', hv⟩
    · rw [hv]
      exact run_append_nil (P := P) w t o.type e i zv hu hi hiz ⟨b, q, none⟩ ys.length c news hnl hcell hpos h63 (by rw [hiby]; omega)
    · rw [hv]
      have := run_append_grow (P := P) w t o.type e i zv hu hi hiz a' 0 0 [] (by simp) (by simp) ⟨b, q, none⟩ ys.length c news hnl hcell (by omega) (by simpa using h63)
        (by rw [Nat.zero_add, nextslicecap_zero hpos, hiby]; omega)
      simp only [Nat.zero_add] at this
      simpa using this
  have hz1 : ∀ u ∈ (Builtin.zeroCells zv.cells (cap - ys.length)).toList, u.oneCell' = true := by
    intro u hu
    have hzz : ∀ v ∈ zv.cells.toList, v.oneCell' = true := by
      obtain ⟨x', hx', hr', h1'⟩ := zeroT_run (G := G) (P := P) (w := w) hz
      have : x' = zv := by
        simp [zeroValue, typeInfo, Sem.run_bind, hi, hiz] at hx'
        exact hx'.symm
      rw [← this]
      exact h1'
    exact zeroCells_one hzz u hu
  let rest := (Builtin.zeroCells zv.cells (cap - ys.length)).toList.map D.v
  have hI' := hI.drew.allocCells (news ++ (Builtin.zeroCells zv.cells (cap - ys.length)).toList) (ys.flatten ++ rest) e (hrep.append (Reps.self G _)) (fun u hu => by
    rcases List.mem_append.1 hu with h | h
    · exact hone u h
    · exact hz1 u h)
  have hw' : w' = w.drew.alloc (.cells (news ++ (Builtin.zeroCells zv.cells (cap - ys.length)).toList).toArray e) := by
    simp only [w']
    congr 2
    apply Array.ext'
    simp
  rw [← hw'] at hI'
  simp only [World.size_drew] at hI'
  refine wp_value (run_append_op ho hrun) (hnext _ _ _ _ _ (.refl G) hI' (.v _) (hK _ _ _ (hI.fresh (Nat.le_refl _)) hcap ?_))
  simp only [rest, List.length_map, zeroCells_len, hzv, hzl]

/-- append to a row of ours. -/
theorem opOk_append_row {ρ : Operand → D} {K : D → Heap → Prop} {s x : Operand} {t e sz by_ b n cap : Nat} {z rest : List D} {xs ys : List (List D)} (ho : o.op = .call ⟨.builtin .append, #[s, x], #[t, t]⟩)
    (hu : P.underlying t = some (.slice e)) (hsz : szT P e = some sz) (hby : bytesT P e = some by_) (hz : zeroT P e = some z) (hzl : z.length = sz) (hs : ρ s = .v (.slice (some ⟨b, 0, none⟩) n cap))
    (hb : H b = some (.cells (xs.flatten ++ rest) e)) (hn : xs.length = n) (hc : n ≤ cap) (hr : rest.length = (cap - n) * sz) (hx : Src H sz ys (ρ x)) (hsx : ∀ ds ∈ xs, ds.length = sz)
    (hsy : ∀ ds ∈ ys, ds.length = sz) (hlen : (xs.length + ys.length) * by_ ≤ 140737488355328) (hlen2 : xs.length + ys.length ≤ maxLen) (hne : ys ≠ [])
    (hK : ∀ b' cap' rest', (H.del b) b' = none → xs.length + ys.length ≤ cap' → rest'.length = (cap' - (xs.length + ys.length)) * sz →
      K (.v (.slice (some ⟨b', 0, none⟩) (xs.length + ys.length) cap')) ((H.del b).set b' (.cells ((xs ++ ys).flatten ++ rest') e))) : OpOk P W o ρ H K := by
  intro G a w next Qx hI hρ hnext
  subst hn
  obtain ⟨i, zv, hi, hisz, hiby, hiz, hzv⟩ := infoT hsz hby hz
  have hsv := hρ s (by simp [ho, Op.operands, Call.operands])
  rw [hs] at hsv
  have hv := hsv.inv_v
  obtain ⟨hWb, cs, hcur, hreps, hone0, hfree⟩ := hI.res b _ hb
  have hIdel : Inv W G (H.del b) w := hI.weaken fun c r hc => by rw [Heap.del_at] at hc; split at hc; cases hc; exact hc
  obtain ⟨bx, q, c, news, hxv, hrep, hcell0, hone⟩ := hx.read hI (hρ x (by simp [ho, Op.operands, Call.operands])) hne hsy
  have hnl : news.length = ys.length * i.size := by rw [hrep.1, elems_all hsy, hisz]
  have hpos : 0 < ys.length := List.length_pos_iff.2 hne
  have hcell : ∀ j u, news[j]? = some u → w.cell? ((⟨bx, q, none⟩ : Addr).add j) = some u := fun j u hj => by rw [Addr.add_lit]; exact hcell0 j u hj
  have hxl : xs.flatten.length = xs.length * sz := elems_all hsx
  have hcl : cs.length = xs.length * sz + rest.length := by rw [hreps.1, List.length_append, hxl]
  by_cases hroom : xs.length + ys.length ≤ cap
  · have hle : ys.length * sz ≤ rest.length := by rw [hr]; exact Nat.mul_le_mul_right _ (by omega)
    have hfit : xs.length * i.size + news.length ≤ cs.toArray.size := by rw [hnl, hisz, List.size_toArray, hcl]; omega
    have hrun := run_append_room (P := P) w t o.type e i hu hi b xs.length cap cs.toArray hcur ⟨bx, q, none⟩ ys.length c news hnl hcell hone hroom hfit
    rw [hisz] at hrun hnl
    have hreps' : Reps G (cs.take (xs.length * sz) ++ news ++ cs.drop (xs.length * sz + news.length)) ((xs ++ ys).flatten ++ rest.drop (ys.length * sz)) := by
      have h1 := hreps.take (xs.length * sz)
      rw [← hxl, List.take_left] at h1
      have h2 := hreps.drop (xs.length * sz + news.length)
      rw [hnl, ← hxl, List.drop_append, List.drop_of_length_le (l := xs.flatten) (by omega), Nat.add_sub_cancel_left, List.nil_append] at h2
      rw [List.flatten_append, hnl, ← hxl]
      exact (h1.append hrep).append h2
    have hI' := hI.setRow hb (cs.take (xs.length * sz) ++ news ++ cs.drop (xs.length * sz + news.length)) hreps' (fun u hu => by
      rcases List.mem_append.1 hu with h | h
      · rcases List.mem_append.1 h with h | h
        · exact hone0 u (List.mem_of_mem_take h)
        · exact hone u h
      · exact hone0 u (List.mem_of_mem_drop h))
    rw [← Heap.del_set_same] at hI'
    exact wp_value (run_append_op ho (by rw [hv, hxv]; exact hrun)) (hnext _ _ _ _ _ (.refl G) hI' (.v _) (hK b cap _ (by simp [Heap.del]) hroom (by
      rw [List.length_drop, hr, ← Nat.sub_mul]
      congr 1
      omega)))
  · have hgt : cap < xs.length + ys.length := by omega
    have hol : (cs.take (xs.length * sz)).length = xs.length * i.size := by rw [List.length_take, hisz, hcl]; omega
    have holdc : ∀ j u, (cs.take (xs.length * sz))[j]? = some u → w.cell? ((⟨b, 0, none⟩ : Addr).add j) = some u := fun j u hj => by
      rw [List.getElem?_take] at hj
      split at hj
      · rw [Addr.add_lit, cell_of_row w b _ _ e _ hcur]; simpa using hj
      · cases hj
    have hrun := run_append_grow (P := P) w t o.type e i zv hu hi hiz ⟨b, 0, none⟩ xs.length cap _ hol holdc ⟨bx, q, none⟩ ys.length c news hnl hcell hgt
      (by simp only [maxLen] at hlen2; omega) (by rw [hiby]; exact growslice_fits hgt hlen)
    have hcap := grownCap_ge w (xs.length + ys.length) cap e
    have hz1 : ∀ u ∈ (Builtin.zeroCells zv.cells (grownCap w (xs.length + ys.length) cap e - (xs.length + ys.length))).toList, u.oneCell' = true := by
      intro u hu
      have hzz : ∀ v ∈ zv.cells.toList, v.oneCell' = true := by
        obtain ⟨x', hx', hr', h1'⟩ := zeroT_run (G := G) (P := P) (w := w) hz
        have : x' = zv := by
          simp [zeroValue, typeInfo, Sem.run_bind, hi, hiz] at hx'
          exact hx'.symm
        rw [← this]
        exact h1'
      exact zeroCells_one hzz u hu
    have htk : Reps G (cs.take (xs.length * sz)) xs.flatten := by
      have h1 := hreps.take (xs.length * sz)
      rwa [← hxl, List.take_left, hxl] at h1
    have hI' := hIdel.drew.allocCells (cs.take (xs.length * sz) ++ news ++ (Builtin.zeroCells zv.cells (grownCap w (xs.length + ys.length) cap e - (xs.length + ys.length))).toList)
      ((xs ++ ys).flatten ++ (Builtin.zeroCells zv.cells (grownCap w (xs.length + ys.length) cap e - (xs.length + ys.length))).toList.map D.v) e
      (by rw [List.flatten_append]; exact (htk.append hrep).append (Reps.self G _)) (fun u hu => by
        rcases List.mem_append.1 hu with h | h
        · rcases List.mem_append.1 h with h | h
          · exact hone0 u (List.mem_of_mem_take h)
          · exact hone u h
        · exact hz1 u h)
    have harr : (cs.take (xs.length * sz)).toArray ++ news.toArray ++ Builtin.zeroCells zv.cells (grownCap w (xs.length + ys.length) cap e - (xs.length + ys.length)) =
        (cs.take (xs.length * sz) ++ news ++ (Builtin.zeroCells zv.cells (grownCap w (xs.length + ys.length) cap e - (xs.length + ys.length))).toList).toArray := by
      apply Array.ext'
      simp
    rw [harr] at hrun
    simp only [World.size_drew] at hI'
    refine wp_value (run_append_op ho (by rw [hv, hxv]; exact hrun)) (hnext _ _ _ _ _ (.refl G) hI' (.v _) (hK _ _ _ (hIdel.fresh (Nat.le_refl _)) hcap ?_))
    simp only [List.length_map, zeroCells_len, hzv, hzl]

/-- A list that is gathered, and whose elements will be written. -/
inductive CollR (H0 : Heap) (e sz : Nat) (xs : List (List D)) : D → Heap → Prop
  | none (h : xs = []) : CollR H0 e sz xs .nil H0
  | some (b cap : Nat) (rest : List D) (hb : H0 b = none) (hc : xs.length ≤ cap) (hr : rest.length = (cap - xs.length) * sz) : CollR H0 e sz xs (.v (.slice (some ⟨b, 0, none⟩) xs.length cap)) (H0.set b (.cells (xs.flatten ++ rest) e))

section lits
variable {dst : Option Tmp} {ty : TypeId} {pos : String} {aft : Array Edge}
theorem runO_append_cellsR {s x : Operand} {t e sz by_ : Nat} {z : List D} {ys : List (List D)}
    (hu : P.underlying t = some (.slice e)) (hsz : szT P e = some sz) (hby : bytesT P e = some by_) (hz : zeroT P e = some z) (hzl : z.length = sz) (hs : ev env s = .nil) (hx : Src H sz ys (ev env x))
    (hsy : ∀ ds ∈ ys, ds.length = sz) (hlen : ys.length * by_ ≤ 140737488355328) (hlen2 : ys.length ≤ maxLen) (hne : ys ≠ [])
    (h : ∀ b cap rest, H b = none → ys.length ≤ cap → rest.length = (cap - ys.length) * sz → RunO P W f N Q ops l k (put N env dst (.v (.slice (some ⟨b, 0, none⟩) ys.length cap))) (H.set b (.cells (ys.flatten ++ rest) e))) :
    RunO P W f N Q ops (⟨dst, .call ⟨.builtin .append, #[s, x], #[t, t]⟩, ty, pos, aft, none⟩ :: l) k env H :=
  runO_op rfl (opOk_append_cellsR rfl hu hsz hby hz hzl hs hx hsy hlen hlen2 hne h)
theorem runO_append_row {s x : Operand} {t e sz by_ b n cap : Nat} {z rest : List D} {xs ys : List (List D)}
    (hu : P.underlying t = some (.slice e)) (hsz : szT P e = some sz) (hby : bytesT P e = some by_) (hz : zeroT P e = some z) (hzl : z.length = sz) (hs : ev env s = .v (.slice (some ⟨b, 0, none⟩) n cap))
    (hb : H b = some (.cells (xs.flatten ++ rest) e)) (hn : xs.length = n) (hc : n ≤ cap) (hr : rest.length = (cap - n) * sz) (hx : Src H sz ys (ev env x)) (hsx : ∀ ds ∈ xs, ds.length = sz)
    (hsy : ∀ ds ∈ ys, ds.length = sz) (hlen : (xs.length + ys.length) * by_ ≤ 140737488355328) (hlen2 : xs.length + ys.length ≤ maxLen) (hne : ys ≠ [])
    (h : ∀ b' cap' rest', (H.del b) b' = none → xs.length + ys.length ≤ cap' → rest'.length = (cap' - (xs.length + ys.length)) * sz →
      RunO P W f N Q ops l k (put N env dst (.v (.slice (some ⟨b', 0, none⟩) (xs.length + ys.length) cap'))) ((H.del b).set b' (.cells ((xs ++ ys).flatten ++ rest') e))) :
    RunO P W f N Q ops (⟨dst, .call ⟨.builtin .append, #[s, x], #[t, t]⟩, ty, pos, aft, none⟩ :: l) k env H :=
  runO_op rfl (opOk_append_row rfl hu hsz hby hz hzl hs hb hn hc hr hx hsx hsy hlen hlen2 hne h)
/-- append to such a list: it collects more. -/
theorem runO_collR {s x : Operand} {t e sz by_ : Nat} {z : List D} {H0 : Heap} {xs ys : List (List D)}
    (hu : P.underlying t = some (.slice e)) (hsz : szT P e = some sz) (hby : bytesT P e = some by_) (hz : zeroT P e = some z) (hzl : z.length = sz) (hs : CollR H0 e sz xs (ev env s) H) (hx : Src H sz ys (ev env x))
    (hsx : ∀ ds ∈ xs, ds.length = sz) (hsy : ∀ ds ∈ ys, ds.length = sz) (hlen : (xs.length + ys.length) * by_ ≤ 140737488355328) (hlen2 : xs.length + ys.length ≤ maxLen) (hne : ys ≠ [])
    (h : ∀ d H', CollR H0 e sz (xs ++ ys) d H' → RunO P W f N Q ops l k (put N env dst d) H') :
    RunO P W f N Q ops (⟨dst, .call ⟨.builtin .append, #[s, x], #[t, t]⟩, ty, pos, aft, none⟩ :: l) k env H := by
  generalize hd : ev env s = d at hs
  cases hs with
  | none hn =>
    subst hn
    simp only [List.length_nil, Nat.zero_add] at hlen hlen2
    refine runO_append_cellsR hu hsz hby hz hzl hd hx hsy hlen hlen2 hne fun b cap rest hb hc hr => h _ _ ?_
    exact CollR.some (xs := [] ++ ys) b cap rest hb hc hr
  | some b cap rest hb hc hr =>
    refine runO_append_row hu hsz hby hz hzl hd (Heap.set_same _ _ _) rfl hc hr hx hsx hsy hlen hlen2 hne fun b' cap' rest' hb' hc' hr' => ?_
    rw [Heap.del_set hb] at hb' ⊢
    have := CollR.some (H0 := H0) (e := e) (sz := sz) (xs := xs ++ ys) b' cap' rest' hb' (by rw [List.length_append]; exact hc') (by rw [List.length_append]; exact hr')
    rw [List.length_append] at this
    exact h _ _ this
end lits
end
end Go.Sn
namespace Go.Sn
open Go Go.RowKit
set_option linter.unusedVariables false
set_option linter.unusedSimpArgs false
section
variable {P : Program} {W : World} {f : FuncId} {N : Nat} {Q : D → Heap → Prop} {ws : Cl} {ops : Array Oper} {l : List Oper} {o : Oper} {k : List Item} {env : Env} {H : Heap} {G : IG} {w : World}
theorem opOk_sliceNilV {ρ : Operand → D} {K : D → Heap → Prop} {t e yt : TypeId} {x : Operand} {ad : Addr} {m c : Nat} (ho : o.op = .binOp .eql t x (.const (.slice none 0 0)) yt) (hu : P.underlying t = some (.slice e)) (hx : ρ x = .v (.slice (some ad) m c))
    (hK : K (.v (.bool false)) H) : OpOk P W o ρ H K := by
  intro G a w next Qx hI hρ hnext
  have hxr := hρ x (by simp [ho, Op.operands])
  rw [hx] at hxr
  have hv := hxr.inv_v
  refine wp_value (w' := w) (v := .bool false) ?_ (hnext _ _ _ _ _ (.refl G) hI (.v _) hK)
  simp only [execOp, ho, hv]
  refine execOp_v' ?_
  show (Sem.bind (eqGuard .eql t x (.const (.slice none 0 0)) (.slice (some ad) m c) (.slice none 0 0)) fun _ => binOp .eql t (.slice (some ad) m c) (.slice none 0 0)).run P w = _
  rw [Sem.run_bind', run_eqGuard_v .eql t x _ (by simp) (by simp)]
  exact run_eql_of (run_equalIn_sl 9999 hu (some ad) m c) rfl
section lits
variable {dst : Option Tmp} {ty : TypeId} {pos : String} {aft : Array Edge}
theorem runO_sliceNilV {t e yt : TypeId} {x : Operand} {ad : Addr} {m c : Nat} (hu : P.underlying t = some (.slice e)) (hx : ev env x = .v (.slice (some ad) m c))
    (h : RunO P W f N Q ops l k (put N env dst (.v (.bool false))) H) :
    RunO P W f N Q ops (⟨dst, .binOp .eql t x (.const (.slice none 0 0)) yt, ty, pos, aft, none⟩ :: l) k env H := runO_op rfl (opOk_sliceNilV rfl hu hx h)
end lits
end
theorem collR_set {H0 H : Heap} {e sz p : Nat} {xs : List (List D)} {d : D} {r r0 : Res} (h : CollR H0 e sz xs d H) (hp : H0 p = some r0) : CollR (H0.set p r) e sz xs d (H.set p r) := by
  cases h with
  | none h => exact .none h
  | some b cap rest hb hc hr =>
    have hne : p ≠ b := fun e1 => by subst e1; rw [hb] at hp; cases hp
    have hc' : (H0.set b (.cells (xs.flatten ++ rest) e)).set p r = (H0.set p r).set b (.cells (xs.flatten ++ rest) e) := Heap.set_comm _ _ _ (fun e1 => hne e1.symm)
    rw [hc']
    exact .some b cap rest (by rw [Heap.set_other _ _ (fun e1 => hne e1.symm)]; exact hb) hc hr
theorem CollR.sub {H0 H : Heap} {e sz : Nat} {xs : List (List D)} {d : D} (h : CollR H0 e sz xs d H) : H0.sub H := by
  cases h with
  | none h => exact Heap.sub_refl _
  | some b cap rest hb hc hr => exact Heap.sub_set (Heap.sub_refl _) hb
theorem collR_stor {H0 H : Heap} {e sz : Nat} {xs : List (List D)} {d : D} (h : CollR H0 e sz xs d H) : d.stor = true ∧ d.cells = [d] ∧ d.one = true := by
  cases h with
  | none h => exact ⟨rfl, rfl, rfl⟩
  | some b cap rest hb hc hr => exact ⟨rfl, rfl, rfl⟩
section
variable {P : Program} {W : World} {f : FuncId} {N : Nat} {Q : D → Heap → Prop} {ops : Array Oper} {l : List Oper} {o : Oper} {k : List Item} {env : Env} {H : Heap}
/-- Is it there, and what is it? -/
theorem opOk_lookup2 {ρ : Operand → D} {K : D → Heap → Prop} {t kt et : TypeId} {m x : Operand} {b : Nat} {es : List (Value × D)} {kv : Value} {lk : Lit} {z : D} (ho : o.op = .lookup t m x true) (hu : P.underlying t = some (.map kt et))
    (KK : Maps.Keyed P kt) (hz : zeroV P et = some z) (hm : ρ m = .v (.map (some b))) (hb : H b = some (.map es)) (hes : KeysOk P kt es) (hx : litV (ρ x) = some kv) (hl : keyOf P kt kv = some lk)
    (hK : K (.tup [(getE es kv).getD z, .v (.bool (getE es kv).isSome)]) H) : OpOk P W o ρ H K := by
  intro G a w next Qx hI hρ hnext
  have hmv : a.eval m = .map (some b) := by have := hρ m (by simp [ho, Op.operands]); rw [hm] at this; exact this.inv_v
  have hxv : a.eval x = kv := (hρ x (by simp [ho, Op.operands])).litV hx
  obtain ⟨_, ms, ck, hms, hlen, hr, hck, hborn⟩ := hI.res b _ hb
  have hget : (getObj b).run P w = .ok (.map ms.toArray ck) w := MapKept.run_getObj_map hms
  rcases find_own (w := w) KK hes hlen hr hl with ⟨h1, h2⟩ | ⟨j, me, d, h1, h2, h3, h4, h5, h6⟩
  · obtain ⟨zv, hzv, hzr⟩ := run_zeroV (P := P) (G := G) (w := w) hz
    refine wp_value (w' := w) (v := .tuple #[zv, .bool false]) ?_ (hnext _ _ _ _ _ (.refl G) hI (Rep.mkTup (cs := [zv, .bool false]) (Reps.cons hzr (Reps.cons (.v _) (Reps.nil _)))) (by rw [h2] at hK; exact hK))
    simp only [execOp, ho, hmv, hxv]
    refine execOp_v' ?_
    simp only [Instr.lookup, Sem.run_bind, run_underlying hu, Result.andThen_ok, hget, Sem.run_pure, KK.check w _ hl, h1, hzv]
    rfl
  · refine wp_value (w' := w) (v := .tuple #[me.val, .bool true]) ?_ (hnext _ _ _ _ _ (.refl G) hI (Rep.mkTup (cs := [me.val, .bool true]) (Reps.cons h5 (Reps.cons (.v _) (Reps.nil _)))) (by rw [h6] at hK; exact hK))
    simp only [execOp, ho, hmv, hxv]
    refine execOp_v' ?_
    simp only [Instr.lookup, Sem.run_bind, run_underlying hu, Result.andThen_ok, hget, Sem.run_pure, KK.check w _ hl, h1]
    rfl
section lits
variable {dst : Option Tmp} {ty : TypeId} {pos : String} {aft : Array Edge}
theorem runO_lookup2M {K V : Type} [DecidableEq K] {kc : K → Value} {vc : V → D} {ok : K → Prop} {z : V} {t : TypeId} {b : Nat} {ml : List (K × V)} {kk : K} (M : MT P t kc vc ok z) {m x : Operand} (hm : ev env m = .v (.map (some b))) (hb : H b = some (.map (entC kc vc ml))) (hl : MOk ok ml) (hx : litV (ev env x) = some (kc kk)) (hk : ok kk)
    (h : RunO P W f N Q ops l k (put N env dst (.tup [vc ((getM ml kk).getD z), .v (.bool (getM ml kk).isSome)])) H) : RunO P W f N Q ops (⟨dst, .lookup t m x true, ty, pos, aft, none⟩ :: l) k env H := by
  obtain ⟨⟨kt, et, hu, KK, hkey, hz⟩, hinj⟩ := M
  obtain ⟨lk, hlk⟩ := hkey kk hk
  refine runO_op rfl (opOk_lookup2 rfl hu KK hz hm hb (keysOk_ent hinj (fun x hx => hkey _ (hl.1 x hx)) hl.2) hx hlk ?_)
  rw [getE_ent hinj]
  cases hg : getM ml kk <;> rw [hg] at h <;> exact h
end lits
end
end Go.Sn
