/-
  A program logic over the kit's `Calls`. Part 9: regions that draw their order, where no operation touches the heap that is ours.
-/
import Derived.Test.YtobdagjdhgjplaaOps5
import Derived.Orders
namespace Go.Sn
open Go Go.RowKit
set_option linter.unusedVariables false
set_option linter.unusedSimpArgs false

/-- An operation that, with these slots, leaves `d` and the heap as it was. -/
def OkAt (P : Program) (W : World) (ops : Array Oper) (H : Heap) (o : Oper) (d : D) (env : Env) : Prop :=
  match o.guard with
  | none => OpOk P W o (ev env) H fun d' H' => d' = d ∧ H' = H
  | some (j, g) => ∃ cs d0, guardA ops env j g = some cs ∧ d = wrapL cs d0 ∧ (allT cs → OpOk P W o (fun x => stripL cs (ev env x)) H fun d' H' => d' = d0 ∧ H' = H)

/-- What is told of a region: the functions that turn the heap; which loads and stores, and which blocks, are of a second sort of cells. -/
structure Cl where
  fs : Nat → Bool
  oc : Op → Bool
  kb : Nat → Bool
  /-- do calls of function values turn the heap? -/
  dv : Bool
  /-- functions whose calls look at nothing of ours -/
  ps : Nat → Bool
  /-- functions whose calls stand alone: all else waits for them, or they for it -/
  fe : Nat → Bool
def Cl.zero : Cl := ⟨fun _ => false, fun _ => false, fun _ => false, false, fun _ => false, fun _ => false⟩
def Cl.dyn : Cl := ⟨fun _ => false, fun _ => false, fun _ => false, true, fun _ => false, fun _ => false⟩
theorem Cl.dyn_plain : (∀ op, Cl.dyn.oc op = false) ∧ ∀ b, Cl.dyn.kb b = false := ⟨fun _ => rfl, fun _ => rfl⟩
def Cl.plain (ws : Cl) : Prop := (∀ op, ws.oc op = false) ∧ ∀ b, ws.kb b = false
theorem Cl.zero_plain : Cl.zero.plain := ⟨fun _ => rfl, fun _ => rfl⟩
def cc (b : Bool) : Nat := if b then 5 else 1
theorem cc_cases (b : Bool) : cc b = 1 ∨ cc b = 5 := by cases b <;> simp [cc]
def Wr (w : Nat) : Prop := w = 1 ∨ w = 2 ∨ w = 5
theorem Wr.cc (b : Bool) : Wr (cc b) := by cases b <;> simp [Go.Sn.cc, Wr]
/-- What an operation looks at: nothing (0), cells (1, 5), maps (2), rooms (3), all (4). -/
def opR (ws : Cl) : Op → Nat
  | .load t p => cc (ws.oc (.load t p))
  | .store t p x => cc (ws.oc (.store t p x))
  | .lookup _ _ _ _ => 2
  | .mapUpdate _ _ _ _ => 2
  | .mapEntry _ _ _ => 2
  | .entryStore _ _ _ _ => 2
  | .call c => match c.callee with
    | .builtin .max => 0
    | .builtin .min => 0
    | .builtin .len => 2
    | .builtin .append => 3
    | .value (.func f) => if ws.ps f && !ws.fs f then 0 else 4
    | _ => 4
  | _ => 0
/-- What it turns; `ws`: the functions that turn the heap. -/
def opW (ws : Cl) : Op → Nat
  | .store t p x => cc (ws.oc (.store t p x))
  | .mapUpdate _ _ _ _ => 2
  | .mapEntry _ _ _ => 2
  | .entryStore _ _ _ _ => 2
  | .call c => match c.callee with
    | .value (.func f) => if ws.fs f then 4 else 0
    | .value (.tmp _) => if ws.dv then 4 else 0
    | _ => 0
  | _ => 0
/-- Does it make a block? -/
def opN : Op → Bool
  | .alloc _ => true
  | .box _ _ => true
  | .makeMap _ _ => true
  | .makeSlice _ _ _ => true
  | .call c => match c.callee with
    | .builtin .append => true
    | _ => false
  | _ => false
/-- Does its call stand alone? -/
def opF (ws : Cl) : Op → Bool
  | .call c => match c.callee with
    | .value (.func f) => ws.fe f
    | _ => false
  | _ => false
theorem opW_R {ws : Cl} {op : Op} (h : opW ws op ≠ 0) : opR ws op = opW ws op := by
  cases op <;> simp only [opW, opR, ne_eq, not_true_eq_false, not_false_eq_true] at h ⊢
  rename_i c
  obtain ⟨callee, args, ats⟩ := c
  cases callee with
  | value x => cases x <;> simp_all
  | builtin b => simp at h
  | invoke r n => simp at h
theorem opR_3 {ws : Cl} {op : Op} (h : opN op = false) : opR ws op ≠ 3 := by
  cases op <;> simp only [opN, opR, ne_eq, reduceCtorEq, not_false_eq_true] at h ⊢ <;> first | omega | (simp only [cc]; split <;> omega) | skip
  rename_i c
  obtain ⟨callee, args, ats⟩ := c
  cases callee with
  | builtin b => cases b <;> simp at h ⊢
  | value x => cases x <;> simp <;> split <;> simp
  | _ => simp
theorem opR_le (ws : Cl) (op : Op) : opR ws op ≤ 5 := by
  cases op <;> simp only [opR, Nat.le_refl, Nat.zero_le, Nat.reduceLeDiff] <;> first | (simp only [cc]; split <;> omega) | skip
  split <;> first | omega | (split <;> omega)
theorem Wr.ne {w : Nat} (h : Wr w) : w ≠ 0 ∧ w ≠ 4 ∧ w ≠ 3 := by unfold Wr at h; omega

def _root_.Go.Sn.Res.cls : Res → Nat
  | .cells _ _ => 1
  | .map _ => 2
  | .grow _ _ _ _ => 3
def clsR (ws : Cl) (b : Nat) : Res → Nat
  | .cells _ _ => cc (ws.kb b)
  | .map _ => 2
  | .grow _ _ _ _ => 3
theorem clsR_3 {ws : Cl} {b : Nat} {r : Res} : clsR ws b r = 3 ↔ r.cls = 3 := by
  cases r <;> simp [clsR, Res.cls, cc]
  split <;> omega
/-- As far as such an operation looks, the heaps are the same. -/
def sameOn (ws : Cl) (m : Nat) (H H' : Heap) : Prop := (m ≠ 0 → m ≠ 4 → ∀ b r, H b = some r → clsR ws b r = m → H' b = some r) ∧ (m = 4 → H' = H)
theorem sameOn.zero (ws : Cl) (H H' : Heap) : sameOn ws 0 H H' := ⟨fun h => absurd rfl h, fun h => by omega⟩
theorem sameOn.refl (ws : Cl) (m : Nat) (H : Heap) : sameOn ws m H H := ⟨fun _ _ b r h _ => h, fun _ => rfl⟩
theorem sameOn.trans {ws : Cl} {m : Nat} {A B C : Heap} (h : sameOn ws m A B) (k : sameOn ws m B C) : sameOn ws m A C :=
  ⟨fun h1 h3 b r hb hc => k.1 h1 h3 b r (h.1 h1 h3 b r hb hc) hc, fun hm => (k.2 hm).trans (h.2 hm)⟩
def hit (w m : Nat) : Bool := w != 0 && m != 0 && (w == m || w == 4 || m == 4)
theorem sameOn.set {ws : Cl} {m w b : Nat} {H : Heap} {r0 r : Res} (h0 : H b = some r0) (hc : clsR ws b r0 = w) (hw : Wr w) (hm : hit w m = false) : sameOn ws m H (H.set b r) := by
  simp only [hit, Bool.and_eq_false_iff, bne_eq_false_iff_eq, Bool.or_eq_false_iff, beq_eq_false_iff_ne] at hm
  unfold Wr at hw
  refine ⟨fun h1 h3 c r' hcr hcl => ?_, fun h3 => by omega⟩
  rw [Heap.set_at]
  split
  · rename_i e; subst e; rw [h0] at hcr; cases hcr; omega
  · exact hcr
theorem sameOn.unset {ws : Cl} {m w b : Nat} {H H' : Heap} {r : Res} (hc : clsR ws b r = w) (hw : Wr w) (hm : hit w m = false) (h : sameOn ws m H H') : sameOn ws m (H.set b r) H' := by
  simp only [hit, Bool.and_eq_false_iff, bne_eq_false_iff_eq, Bool.or_eq_false_iff, beq_eq_false_iff_ne] at hm
  unfold Wr at hw
  refine ⟨fun h1 h3 c r' hcr hcl => ?_, fun h3 => by omega⟩
  rw [Heap.set_at] at hcr
  split at hcr
  · rename_i e; subst e; cases hcr; omega
  · exact h.1 h1 h3 c r' hcr hcl
/-- The heap without a room that is no longer ours. -/
def delO (H : Heap) : Option Nat → Heap
  | none => H
  | some b => H.del b

/-- One operation: what it gives, and the heap behind it. -/
def StepOk (P : Program) (W : World) (ws : Cl) (ops : Array Oper) (o : Oper) (d : D) (env : Env) (H H1 : Heap) : Prop :=
  (opW ws o.op = 0 ∧ H1 = H ∧ ∀ H', sameOn ws (opR ws o.op) H H' → OkAt P W ops H' o d env) ∨
    (Wr (opW ws o.op) ∧ o.guard = none ∧ ∃ b r0 r, H b = some r0 ∧ clsR ws b r0 = opW ws o.op ∧ clsR ws b r = opW ws o.op ∧ H1 = H.set b r ∧
      ∀ H', sameOn ws (opR ws o.op) H H' → OpOk P W o (ev env) H' fun d' H2 => d' = d ∧ H2 = H'.set b r) ∨
    (opW ws o.op = 4 ∧ o.guard = none ∧ OpOk P W o (ev env) H fun d' H' => d' = d ∧ H' = H1)

/-- One that makes a block, whatever is there (in place of one with room, `dl`). -/
def NewOk (P : Program) (W : World) (o : Oper) (dl : Option Nat) (C : Nat → Prop) (r : Nat → Res) (mk : Nat → Nat → D) (env : Env) (H : Heap) : Prop :=
  opN o.op = true ∧ o.guard = none ∧ (∀ b, dl = some b → ∃ g, H b = some g ∧ g.cls = 3) ∧
    ∀ (H' : Heap), (∀ b, dl = some b → H' b = H b) → ∀ (K : D → Heap → Prop), (∀ b c, C c → delO H' dl b = none → K (mk b c) ((delO H' dl).set b (r c))) → OpOk P W o (ev env) H' K

/-- The operations of a region, one behind the other. -/
def RunD (P : Program) (W : World) (f : FuncId) (N : Nat) (Q : D → Heap → Prop) (ws : Cl) (ops : Array Oper) (k : List Item) : Heap → List Oper → Env → Prop
  | H, [], env => RunA P W f N Q k env H
  | H, o :: l, env => (∃ d H1, StepOk P W ws ops o d env H H1 ∧ RunD P W f N Q ws ops k H1 l (put N env o.dst d)) ∨
      (∃ dl C r mk, NewOk P W o dl C r mk env H ∧ ∀ b c, C c → delO H dl b = none → RunD P W f N Q ws ops k ((delO H dl).set b (r c)) l (put N env o.dst (mk b c))) ∨
      ∃ Q', opF ws o.op = true ∧ o.guard = none ∧ OpOk P W o (ev env) H Q' ∧ ∀ d H1, Q' d H1 → RunD P W f N Q ws ops k H1 l (put N env o.dst d)

theorem allT_all (cs : List Bool) : allT cs ↔ cs.all id = true := by
  induction cs with
  | nil => simp [allT]
  | cons c cs ih => simp [allT, ih]
def waitsOn (oj : Oper) (i : Nat) : Bool := oj.after.any fun e => Region.binds .any e && e.on == i
def clash (ws : Cl) (oi oj : Oper) : Bool := hit (opW ws oi.op) (opR ws oj.op) || hit (opW ws oj.op) (opR ws oi.op)
/-- One waits for another, by way of others. -/
def reaches (ops : Array Oper) : Nat → Nat → Nat → Bool
  | 0, _, _ => false
  | n + 1, j, i => match ops[j]? with
    | some oj => oj.after.any fun e => Region.binds .any e && (e.on == i || reaches ops n e.on i)
    | none => false
/-- Two operations that may change places, or the second waits for the first. -/
def pairOk (ws : Cl) (ops : Array Oper) (i j : Nat) : Bool :=
  match ops[i]?, ops[j]? with
  | some oi, some oj => (oi.apart ops oj && !clash ws oi oj && !opN oi.op && (!opN oj.op || opR ws oi.op != 4) && !opF ws oi.op && !opF ws oj.op) || waitsOn oj i || reaches ops 5 j i
  | _, _ => true
/-- The second may stand behind the first. -/
def behind (ws : Cl) (ops : Array Oper) (i j : Nat) : Bool := i != j && pairOk ws ops i j && ((ops[i]?).map fun oi => !waitsOn oi j).getD true
def behindAll (ws : Cl) (ops : Array Oper) : List Nat → Bool
  | [] => true
  | i :: l => l.all (behind ws ops i) && behindAll ws ops l
/-- Whatever is not ordered does not meet in the slots, nor in the heap; what is waited for stands ahead; `π`: the order in which we go. -/
def drawOk (ws : Cl) (ops : Array Oper) (π : List Nat) : Bool :=
  behindAll ws ops π && (List.range ops.size).all (fun i => π.contains i) && π.all (fun i => decide (i < ops.size)) && ops.toList.zipIdx.all fun x => x.1.after.all fun e => !Region.binds .any e || (decide (e.on < ops.size) && e.on != x.2)

section
variable {P : Program} {W : World} {f : FuncId} {N : Nat} {Q : D → Heap → Prop} {ws : Cl} {ops : Array Oper} {l : List Oper} {o : Oper} {k : List Item} {env : Env} {H : Heap}

theorem OpOk.congr {ρ ρ' : Operand → D} {K : D → Heap → Prop} (h : OpOk P W o ρ H K) (he : ∀ x ∈ o.op.operands, ρ x = ρ' x) : OpOk P W o ρ' H K :=
  fun G a w next Qx hI hρ hn => h G a w next Qx hI (fun x hx => by rw [he x hx]; exact hρ x hx) hn

theorem ev_congr {env env' : Env} {x : Operand} (hx : x ∈ o.op.operands) (he : ∀ t ∈ o.looksAt ops, env t = env' t) : ev env x = ev env' x := by
  cases x with
  | tmp t =>
    refine he t ?_
    unfold Oper.looksAt
    refine List.mem_append.2 (.inl (List.mem_filterMap.2 ⟨.tmp t, by simpa using hx, rfl⟩))
  | const v => rfl
  | global g => rfl
  | func f => rfl

theorem OkAt.congr {d : D} {env env' : Env} (h : OkAt P W ops H o d env) (he : ∀ t ∈ o.looksAt ops, env t = env' t) : OkAt P W ops H o d env' := by
  unfold OkAt at h ⊢
  cases hg : o.guard with
  | none =>
    simp only [hg] at h ⊢
    exact h.congr fun x hx => ev_congr hx he
  | some jg =>
    obtain ⟨j, g⟩ := jg
    simp only [hg] at h ⊢
    obtain ⟨cs, d0, h1, h2, h3⟩ := h
    refine ⟨cs, d0, ?_, h2, fun hc => (h3 hc).congr fun x hx => by rw [ev_congr (ops := ops) hx he]⟩
    rw [← h1]
    unfold guardA
    cases ho : ops[j]? with
    | none => rfl
    | some o' =>
      cases hd : o'.dst with
      | none => simp [hd]
      | some t =>
        simp only [hd]
        rw [he t]
        unfold Oper.looksAt
        exact List.mem_append.2 (.inr (by simp [hg, ho, hd]))

theorem put_at_ne {N : Nat} {env : Env} {dst : Option Tmp} {d : D} {t : Nat} (h : dst ≠ some t) : put N env dst d t = env t := by
  cases dst with
  | none => rfl
  | some k =>
    simp only [put_some]
    split
    · rw [upd_at, if_neg (fun e => h (by rw [e]))]
    · rfl

theorem put_comm {N : Nat} {env : Env} {x y : Option Tmp} {d e : D} (h : ∀ t, x = some t → y ≠ some t) : put N (put N env x d) y e = put N (put N env y e) x d := by
  funext t
  by_cases hx : x = some t
  · have hy := h t hx
    rw [put_at_ne hy]
    subst hx
    simp only [put_some]
    split
    · simp [upd_at]
    · rw [put_at_ne hy]
  · rw [put_at_ne (env := put N env y e) hx]
    by_cases hy : y = some t
    · subst hy
      simp only [put_some]
      split
      · simp [upd_at]
      · rw [put_at_ne hx]
    · rw [put_at_ne hy, put_at_ne hy, put_at_ne hx]

/-- The operations that are left. -/
def Vs (P : Program) (W : World) (f : FuncId) (N : Nat) (Q : D → Heap → Prop) (ws : Cl) (ops : Array Oper) (k : List Item) : Heap → List Nat → Env → Prop
  | H, [], env => RunA P W f N Q k env H
  | H, i :: R, env => ∃ o, ops[i]? = some o ∧ ((∃ d H1, StepOk P W ws ops o d env H H1 ∧ Vs P W f N Q ws ops k H1 R (put N env o.dst d)) ∨
      (∃ dl C r mk, NewOk P W o dl C r mk env H ∧ ∀ b c, C c → delO H dl b = none → Vs P W f N Q ws ops k ((delO H dl).set b (r c)) R (put N env o.dst (mk b c))) ∨
      ∃ Q', opF ws o.op = true ∧ o.guard = none ∧ OpOk P W o (ev env) H Q' ∧ ∀ d H1, Q' d H1 → Vs P W f N Q ws ops k H1 R (put N env o.dst d))

theorem NewOk.congr {dl : Option Nat} {C : Nat → Prop} {r : Nat → Res} {mk : Nat → Nat → D} {env env' : Env} (h : NewOk P W o dl C r mk env H) (he : ∀ t ∈ o.looksAt ops, env t = env' t) : NewOk P W o dl C r mk env' H :=
  ⟨h.1, h.2.1, h.2.2.1, fun H' hH K hK => (h.2.2.2 H' hH K hK).congr fun x hx => ev_congr (ops := ops) hx he⟩

theorem OpOk.congrE {ρ ρ' : Operand → D} {K : D → Heap → Prop} (h : OpOk P W o ρ H K) (he : ∀ x ∈ o.op.operands, ρ x = ρ' x) : OpOk P W o ρ' H K := h.congr he

theorem StepOk.congr {d : D} {env env' : Env} {H1 : Heap} (h : StepOk P W ws ops o d env H H1) (he : ∀ t ∈ o.looksAt ops, env t = env' t) : StepOk P W ws ops o d env' H H1 := by
  rcases h with ⟨h1, h2, h3⟩ | ⟨h1, h2, b, r0, r, h3, h4, h5, h6, h7⟩ | ⟨h1, h2, h3⟩
  · exact .inl ⟨h1, h2, fun H' hs => (h3 H' hs).congr he⟩
  · exact .inr (.inl ⟨h1, h2, b, r0, r, h3, h4, h5, h6, fun H' hs => (h7 H' hs).congr fun x hx => ev_congr (ops := ops) hx he⟩)
  · exact .inr (.inr ⟨h1, h2, h3.congr fun x hx => ev_congr (ops := ops) hx he⟩)

/-- Two that do not clash change places. -/
theorem StepOk.swap {oi oj : Oper} {di dj : D} {e1 e2 : Env} {H1 H2 : Heap} (hc : clash ws oj oi = false) (hj : StepOk P W ws ops oj dj e1 H H1) (hi : StepOk P W ws ops oi di e2 H1 H2) :
    ∃ H1', StepOk P W ws ops oi di e2 H H1' ∧ StepOk P W ws ops oj dj e1 H1' H2 := by
  simp only [clash, Bool.or_eq_false_iff] at hc
  obtain ⟨hji, hij⟩ := hc
  have ri := opR_le ws oi.op
  have rj := opR_le ws oj.op
  have wi := opW_R (ws := ws) (op := oi.op)
  have wj := opW_R (ws := ws) (op := oj.op)
  rcases hj with ⟨j1, rfl, j3⟩ | ⟨j1, j2, b, r0, r, j3, j4, j5, rfl, j7⟩ | ⟨j1, j2, j3⟩
  · refine ⟨H2, hi, .inl ⟨j1, rfl, fun H' hs => j3 H' ?_⟩⟩
    rcases hi with ⟨i1, rfl, i3⟩ | ⟨i1, i2, b', r0', r', i3, i4, i5, rfl, i7⟩ | ⟨i1, i2, i3⟩
    · exact hs
    · exact (sameOn.set i3 i4 i1 hij).trans hs
    · rw [i1] at hij
      have : opR ws oj.op = 0 := by simp [hit] at hij; omega
      rw [this]; exact sameOn.zero _ _ _
  · rcases hi with ⟨i1, rfl, i3⟩ | ⟨i1, i2, b', r0', r', i3, i4, i5, rfl, i7⟩ | ⟨i1, i2, i3⟩
    · exact ⟨H, .inl ⟨i1, rfl, fun H' hs => i3 H' (sameOn.unset j5 j1 hji hs)⟩, .inr (.inl ⟨j1, j2, b, r0, r, j3, j4, j5, rfl, j7⟩)⟩
    · have hne : opW ws oj.op ≠ opW ws oi.op := by
        have i1' := i1.ne
        have j1' := j1.ne
        rw [wi i1'.1] at hji
        simp only [hit, Bool.and_eq_false_iff, bne_eq_false_iff_eq, Bool.or_eq_false_iff, beq_eq_false_iff_ne] at hji
        omega
      have hbb : b' ≠ b := by
        intro e
        subst e
        rw [Heap.set_same] at i3
        cases i3
        omega
      rw [Heap.set_other _ _ hbb] at i3
      refine ⟨H.set b' r', .inr (.inl ⟨i1, i2, b', r0', r', i3, i4, i5, rfl, fun H' hs => i7 H' (sameOn.unset j5 j1 hji hs)⟩), .inr (.inl ⟨j1, j2, b, r0, r, ?_, j4, j5, ?_, fun H' hs => j7 H' ?_⟩)⟩
      · rw [Heap.set_other _ _ (fun e => hbb e.symm)]; exact j3
      · exact Heap.set_comm _ _ _ (fun e => hbb e.symm)
      · exact (sameOn.set i3 i4 i1 hij).trans hs
    · exfalso
      have j1' := j1.ne
      rw [wi (by omega), i1] at hji
      simp [hit] at hji
      omega
  · rcases hi with ⟨i1, rfl, i3⟩ | ⟨i1, i2, b', r0', r', i3, i4, i5, rfl, i7⟩ | ⟨i1, i2, i3⟩
    · have : opR ws oi.op = 0 := by rw [j1] at hji; simp [hit] at hji; omega
      rw [this] at i3
      exact ⟨H, .inl ⟨i1, rfl, fun H' hs => i3 H' (sameOn.zero _ _ _)⟩, .inr (.inr ⟨j1, j2, j3⟩)⟩
    · exfalso
      have i1' := i1.ne
      rw [j1, wi i1'.1] at hji
      simp [hit] at hji
      omega
    · exfalso
      rw [j1, wi (by omega), i1] at hji
      simp [hit] at hji

theorem delO_other {H : Heap} {dl : Option Nat} {c : Nat} (h : ∀ b, dl = some b → c ≠ b) : delO H dl c = H c := by
  cases dl with
  | none => rfl
  | some b => simp only [delO, Heap.del_at]; rw [if_neg (h b rfl)]
theorem delO_set {H : Heap} {dl : Option Nat} {c : Nat} {r : Res} (h : ∀ b, dl = some b → c ≠ b) : delO (H.set c r) dl = (delO H dl).set c r := by
  cases dl with
  | none => rfl
  | some b =>
    funext k
    simp only [delO, Heap.del_at, Heap.set_at]
    by_cases e : k = b
    · have := h b rfl
      rw [if_pos e, if_neg (by omega), if_pos e]
    · rw [if_neg e, if_neg e]

theorem StepOk.fresh {r : Res} {d : D} {H1 : Heap} {b : Nat} {dl : Option Nat} (h : StepOk P W ws ops o d env H H1) (hr : opR ws o.op ≠ 4) (hr3 : opR ws o.op ≠ 3) (hdl : ∀ c, dl = some c → ∃ g, H c = some g ∧ g.cls = 3) (hb : delO H dl b = none) :
    StepOk P W ws ops o d env ((delO H dl).set b r) ((delO H1 dl).set b r) ∧ delO H1 dl b = none := by
  have r3 := opR_le ws o.op
  have wr := opW_R (ws := ws) (op := o.op)
  have hne : ∀ c r', H c = some r' → r'.cls ≠ 3 → c ≠ b ∧ ∀ x, dl = some x → c ≠ x := by
    intro c r' hcr hcl
    have h1 : ∀ x, dl = some x → c ≠ x := fun x hx e => by
      obtain ⟨g, hg, hg3⟩ := hdl x hx
      subst e
      rw [hcr] at hg
      cases hg
      exact hcl hg3
    refine ⟨fun e => ?_, h1⟩
    subst e
    rw [delO_other h1, hcr] at hb
    cases hb
  have hs : ∀ H', sameOn ws (opR ws o.op) ((delO H dl).set b r) H' → sameOn ws (opR ws o.op) H H' := fun H' hs => by
    refine ⟨fun h1 h2 c r' hcr hcl => ?_, fun h3 => by omega⟩
    obtain ⟨hcb, hcd⟩ := hne c r' hcr (fun e => by rw [← clsR_3 (ws := ws) (b := c)] at e; omega)
    exact hs.1 h1 h2 c r' (by rw [Heap.set_other _ _ hcb, delO_other hcd]; exact hcr) hcl
  rcases h with ⟨h1, rfl, h3⟩ | ⟨h1, h2, b0, r0, r', h3, h4, h5, rfl, h7⟩ | ⟨h1, h2, h3⟩
  · exact ⟨.inl ⟨h1, rfl, fun H' h' => h3 H' (hs H' h')⟩, hb⟩
  · have hwn := h1.ne
    obtain ⟨hcb, hcd⟩ := hne b0 r0 h3 (fun e => by rw [← clsR_3 (ws := ws) (b := b0)] at e; omega)
    rw [delO_set hcd]
    refine ⟨.inr (.inl ⟨h1, h2, b0, r0, r', by rw [Heap.set_other _ _ hcb, delO_other hcd]; exact h3, h4, h5, Heap.set_comm _ _ _ hcb, fun H' h' => h7 H' (hs H' h')⟩), ?_⟩
    rw [Heap.set_other _ _ (fun e => hcb e.symm)]
    exact hb
  · exact absurd (wr (by omega)) (by omega)

/-- The room is still there behind a step that does not look at it. -/
theorem StepOk.room {d : D} {H1 : Heap} {dl : Option Nat} (h : StepOk P W ws ops o d env H H1) (hr : opR ws o.op ≠ 4) (hdl : ∀ c, dl = some c → ∃ g, H1 c = some g ∧ g.cls = 3) :
    ∀ c, dl = some c → H c = H1 c := by
  have wr := opW_R (ws := ws) (op := o.op)
  intro c hc
  rcases h with ⟨h1, rfl, h3⟩ | ⟨h1, h2, b0, r0, r', h3, h4, h5, rfl, h7⟩ | ⟨h1, h2, h3⟩
  · rfl
  · obtain ⟨g, hg, hg3⟩ := hdl c hc
    rw [Heap.set_at] at hg
    split at hg
    · rename_i e; subst e; cases hg; rw [← clsR_3 (ws := ws) (b := c)] at hg3; have := h1.ne; omega
    · rename_i hne
      rw [Heap.set_other _ _ hne]
  · exact absurd (wr (by omega)) (by omega)

theorem vs_take {i : Nat} {R2 : List Nat} {oi : Oper} (hoi : ops[i]? = some oi) : ∀ (R1 : List Nat) (env : Env) (H : Heap),
    (∀ x ∈ R1, ∀ oj, ops[x]? = some oj → oj.apart ops oi = true ∧ clash ws oj oi = false ∧ opN oj.op = false ∧ (opN oi.op = true → opR ws oj.op ≠ 4) ∧ opF ws oj.op = false ∧ opF ws oi.op = false) →
    Vs P W f N Q ws ops k H (R1 ++ i :: R2) env → (∃ d H1, StepOk P W ws ops oi d env H H1 ∧ Vs P W f N Q ws ops k H1 (R1 ++ R2) (put N env oi.dst d)) ∨
      (∃ dl C r mk, NewOk P W oi dl C r mk env H ∧ ∀ b c, C c → delO H dl b = none → Vs P W f N Q ws ops k ((delO H dl).set b (r c)) (R1 ++ R2) (put N env oi.dst (mk b c))) ∨
      ∃ Q', opF ws oi.op = true ∧ oi.guard = none ∧ OpOk P W oi (ev env) H Q' ∧ ∀ d H1, Q' d H1 → Vs P W f N Q ws ops k H1 (R1 ++ R2) (put N env oi.dst d)
  | [], env, H, _, h => by
    obtain ⟨o, ho, h1⟩ := h
    rw [hoi] at ho
    cases ho
    exact h1
  | j :: R1, env, H, ha, h => by
    obtain ⟨oj, hoj, h⟩ := h
    obtain ⟨hap, hcl, hnj, hni, hfj, hfi⟩ := ha j (by simp) oj hoj
    obtain ⟨h5, h6, h7⟩ := Oper.apart_spec hap
    rcases h with ⟨dj, Hj, h1, h2⟩ | ⟨_, _, _, _, hn, _⟩ | ⟨_, hf, _⟩
    · rcases vs_take hoi R1 (put N env oj.dst dj) Hj (fun x hx => ha x (by simp [hx])) h2 with ⟨d, H2, h3, h4⟩ | ⟨dl, C, r, mk, h3, h4⟩ | ⟨_, hf, _⟩
      · have h3' := h3.congr (env' := env) fun t ht => put_at_ne fun e => h5 t e ht
        have h1' := h1.congr (env' := put N env oi.dst d) fun t ht => (put_at_ne fun e => h7 t e ht).symm
        obtain ⟨H1', g1, g2⟩ := StepOk.swap hcl h1' h3'
        refine .inl ⟨d, H1', g1, oj, hoj, .inl ⟨dj, H2, g2, ?_⟩⟩
        rw [← put_comm h6]
        exact h4
      · have h3' := h3.congr (ops := ops) (env' := env) fun t ht => put_at_ne fun e => h5 t e ht
        have hroom := h1.room (dl := dl) (hni h3.1) h3.2.2.1
        have hdl : ∀ c, dl = some c → ∃ g, H c = some g ∧ g.cls = 3 := fun c hc => by rw [hroom c hc]; exact h3.2.2.1 c hc
        refine .inr (.inl ⟨dl, C, r, mk, ⟨h3'.1, h3'.2.1, hdl, fun H' hH => h3'.2.2.2 H' fun c hc => (hH c hc).trans (hroom c hc)⟩, fun b c hC hb => ⟨oj, hoj, ?_⟩⟩)
        have h1' := h1.congr (env' := put N env oi.dst (mk b c)) fun t ht => (put_at_ne fun e => h7 t e ht).symm
        obtain ⟨g1, g2⟩ := h1'.fresh (r := r c) (hni h3.1) (opR_3 hnj) hdl hb
        refine .inl ⟨dj, _, g1, ?_⟩
        rw [← put_comm h6]
        exact h4 b c hC g2
      · rw [hfi] at hf; cases hf
    · rw [hn.1] at hnj; cases hnj
    · rw [hfj] at hf; cases hf

theorem vs_of_runD : ∀ (l : List Oper) (π : List Nat) (env : Env) (H : Heap), l.length = π.length → (∀ (j i : Nat) (o : Oper), l[j]? = some o → π[j]? = some i → ops[i]? = some o) → RunD P W f N Q ws ops k H l env →
    Vs P W f N Q ws ops k H π env
  | [], [], env, H, _, _, h => h
  | [], _ :: _, _, _, hl, _, _ => by simp at hl
  | _ :: _, [], _, _, hl, _, _ => by simp at hl
  | o :: l, i :: π, env, H, hlen, hl, h => by
    have hl' : ∀ (j i : Nat) (o' : Oper), l[j]? = some o' → π[j]? = some i → ops[i]? = some o' := fun j i o' hj hi => hl (j + 1) i o' (by simpa using hj) (by simpa using hi)
    have hlen' : l.length = π.length := by simpa using hlen
    refine ⟨o, hl 0 i o rfl rfl, ?_⟩
    rcases h with ⟨d, H1, h1, h2⟩ | ⟨dl, C, r, mk, h1, h2⟩ | ⟨Q', h1, hg, h2, h3⟩
    · exact .inl ⟨d, H1, h1, vs_of_runD l π _ H1 hlen' hl' h2⟩
    · exact .inr (.inl ⟨dl, C, r, mk, h1, fun b c hC hb => vs_of_runD l π _ _ hlen' hl' (h2 b c hC hb)⟩)
    · exact .inr (.inr ⟨Q', h1, hg, h2, fun d H1 hq => vs_of_runD l π _ H1 hlen' hl' (h3 d H1 hq)⟩)

theorem wpOp_okAt {i : Nat} {o : Oper} {d : D} {G : IG} {a : Act} {w : World} {Qx : Exit → Act → World → Prop} {next : Act → World → Prop} (ho : ops[i]? = some o) (hI : Inv W G H w) (hE : RepEnv G a env)
    (hN : a.tmps.size = N) (h : OkAt P W ops H o d env) (hn : ∀ G' a' w', G.le G' → Inv W G' H w' → RepEnv G' a' (put N env o.dst d) → a'.tmps.size = N → a'.defers = a.defers → next a' w') :
    wpOp P ops Qx i next a w := by
  unfold wpOp
  simp only [ho]
  unfold OkAt at h
  split at h
  · rename_i hg
    rw [if_pos (by simp [Region.wanted, hg])]
    refine .inl (h G a w _ _ hI (fun x _ => hE.ev x) fun v d' H' G' w' hG hI' hR hK => ?_)
    obtain ⟨rfl, rfl⟩ := hK
    refine hn G' _ w' hG hI' ?_ (by rw [Act.size_put]; exact hN) (Act.defers_put _ _ _)
    rw [← hN]
    exact (hE.mono hG).put hR _
  · rename_i j g hg
    obtain ⟨cs, d0, ht, rfl, hc⟩ := h
    by_cases hall : allT cs
    · rw [if_pos (by simp [Region.wanted, hg, guardA_T hE ht hall])]
      refine .inl (hc hall G a w _ _ hI (fun x _ => (hE.ev x).stripL hall) fun v d' H' G' w' hG hI' hR hK => ?_)
      obtain ⟨rfl, rfl⟩ := hK
      refine hn G' _ w' hG hI' ?_ (by rw [Act.size_put]; exact hN) (Act.defers_put _ _ _)
      rw [← hN]
      exact (hE.mono hG).put (hR.wrapT cs hall) _
    · rw [if_neg (by simp [Region.wanted, hg, guardA_F hE ht hall])]
      refine hn G _ w (.refl G) hI ?_ (by rw [Act.size_put]; exact hN) (Act.defers_put _ _ _)
      rw [← hN]
      exact hE.put (Rep.wrapF cs hall) _

theorem wpOp_step {i : Nat} {o : Oper} {d : D} {G : IG} {a : Act} {w : World} {H1 : Heap} {Qx : Exit → Act → World → Prop} {next : Act → World → Prop} (ho : ops[i]? = some o) (hI : Inv W G H w) (hE : RepEnv G a env)
    (hN : a.tmps.size = N) (h : StepOk P W ws ops o d env H H1) (hn : ∀ G' a' w', G.le G' → Inv W G' H1 w' → RepEnv G' a' (put N env o.dst d) → a'.tmps.size = N → a'.defers = a.defers → next a' w') :
    wpOp P ops Qx i next a w := by
  have turn : ∀ (hg : o.guard = none), (OpOk P W o (ev env) H fun d' H' => d' = d ∧ H' = H1) → wpOp P ops Qx i next a w := by
    intro h2 h3
    unfold wpOp
    simp only [ho]
    rw [if_pos (by simp [Region.wanted, h2])]
    refine .inl (h3 G a w _ _ hI (fun x _ => hE.ev x) fun v d' H' G' w' hG hI' hR hK => ?_)
    obtain ⟨rfl, rfl⟩ := hK
    refine hn G' _ w' hG hI' ?_ (by rw [Act.size_put]; exact hN) (Act.defers_put _ _ _)
    rw [← hN]
    exact (hE.mono hG).put hR _
  rcases h with ⟨h1, rfl, h2⟩ | ⟨h1, h2, b, r0, r, h3, h4, h5, rfl, h7⟩ | ⟨h1, h2, h3⟩
  · exact wpOp_okAt ho hI hE hN (h2 _ (sameOn.refl _ _ _)) hn
  · exact turn h2 (h7 _ (sameOn.refl _ _ _))
  · exact turn h2 h3

theorem wpOp_new {i : Nat} {o : Oper} {dl : Option Nat} {C : Nat → Prop} {r : Nat → Res} {mk : Nat → Nat → D} {G : IG} {a : Act} {w : World} {Qx : Exit → Act → World → Prop} {next : Act → World → Prop} (ho : ops[i]? = some o) (hI : Inv W G H w) (hE : RepEnv G a env)
    (hN : a.tmps.size = N) (h : NewOk P W o dl C r mk env H) (hn : ∀ b c G' a' w', C c → delO H dl b = none → G.le G' → Inv W G' ((delO H dl).set b (r c)) w' → RepEnv G' a' (put N env o.dst (mk b c)) → a'.tmps.size = N → a'.defers = a.defers → next a' w') :
    wpOp P ops Qx i next a w := by
  obtain ⟨_, h2, _, h3⟩ := h
  unfold wpOp
  simp only [ho]
  rw [if_pos (by simp [Region.wanted, h2])]
  refine .inl (h3 H (fun _ _ => rfl) (fun d' H' => ∃ b c, C c ∧ delO H dl b = none ∧ d' = mk b c ∧ H' = (delO H dl).set b (r c)) (fun b c hC hb => ⟨b, c, hC, hb, rfl, rfl⟩) G a w _ _ hI (fun x _ => hE.ev x) fun v d' H' G' w' hG hI' hR hK => ?_)
  obtain ⟨b, c, hC, hb, rfl, rfl⟩ := hK
  refine hn b c G' _ w' hC hb hG hI' ?_ (by rw [Act.size_put]; exact hN) (Act.defers_put _ _ _)
  rw [← hN]
  exact (hE.mono hG).put hR _

theorem wpOp_gen {i : Nat} {o : Oper} {Q' : D → Heap → Prop} {G : IG} {a : Act} {w : World} {Qx : Exit → Act → World → Prop} {next : Act → World → Prop} (ho : ops[i]? = some o) (hI : Inv W G H w) (hE : RepEnv G a env)
    (hN : a.tmps.size = N) (hg : o.guard = none) (h : OpOk P W o (ev env) H Q') (hn : ∀ d H1 G' a' w', Q' d H1 → G.le G' → Inv W G' H1 w' → RepEnv G' a' (put N env o.dst d) → a'.tmps.size = N → a'.defers = a.defers → next a' w') :
    wpOp P ops Qx i next a w := by
  unfold wpOp
  simp only [ho]
  rw [if_pos (by simp [Region.wanted, hg])]
  refine .inl (h G a w _ _ hI (fun x _ => hE.ev x) fun v d' H' G' w' hG hI' hR hK => ?_)
  refine hn d' H' G' _ w' hK hG hI' ?_ (by rw [Act.size_put]; exact hN) (Act.defers_put _ _ _)
  rw [← hN]
  exact (hE.mono hG).put hR _

/-- What stands behind what. -/
def Behind (ws : Cl) (ops : Array Oper) (i j : Nat) : Prop := behind ws ops i j = true
theorem behindAll_pair : ∀ {π : List Nat}, behindAll ws ops π = true → π.Pairwise (Behind ws ops)
  | [], _ => .nil
  | i :: l, h => by
    simp only [behindAll, Bool.and_eq_true, List.all_eq_true] at h
    exact .cons (fun j hj => h.1 j hj) (behindAll_pair h.2)
theorem Behind.pair {i j : Nat} {oi oj : Oper} (h : Behind ws ops i j) (hi : ops[i]? = some oi) (hj : ops[j]? = some oj) :
    ((oi.apart ops oj = true ∧ clash ws oi oj = false ∧ opN oi.op = false ∧ (opN oj.op = true → opR ws oi.op ≠ 4) ∧ opF ws oi.op = false ∧ opF ws oj.op = false) ∨ reaches ops 5 j i = true) ∧ i ≠ j ∧ ¬ ∃ e ∈ oi.after, Region.binds .any e = true ∧ e.on = j := by
  unfold Behind behind pairOk at h
  simp only [hi, hj, Bool.and_eq_true, bne_iff_ne, ne_eq, Option.map_some, Option.getD_some, Bool.not_eq_true', Bool.or_eq_true] at h
  obtain ⟨⟨h1, h2⟩, h3⟩ := h
  refine ⟨?_, h1, ?_⟩
  · rcases h2 with (h2 | h2) | h2
    · obtain ⟨⟨⟨⟨⟨g1, g2⟩, g3⟩, g4⟩, g5⟩, g6⟩ := h2
      refine .inl ⟨g1, g2, g3, fun e => ?_, g5, g6⟩
      rcases g4 with g4 | g4
      · rw [e] at g4; cases g4
      · simpa using g4
    · right
      unfold waitsOn at h2
      rw [Array.any_eq_true'] at h2
      obtain ⟨e, he, hb⟩ := h2
      simp only [Bool.and_eq_true, beq_iff_eq] at hb
      unfold reaches
      rw [hj]
      simp only
      rw [Array.any_eq_true']
      exact ⟨e, he, by simp [hb.1, hb.2]⟩
    · exact .inr h2
  · rintro ⟨e, he, hb, hon⟩
    unfold waitsOn at h3
    rw [Array.any_eq_false'] at h3
    have := h3 e he
    simp [hb, hon] at this

structure DrawOk (ws : Cl) (ops : Array Oper) (π : List Nat) : Prop where
  pair : π.Pairwise (Behind ws ops)
  all : ∀ i, i < ops.size ↔ i ∈ π
  waits : ∀ (i : Nat) (o : Oper), ops[i]? = some o → ∀ e ∈ o.after, Region.binds .any e = true → e.on < ops.size ∧ e.on ≠ i
theorem drawOk_ok {π : List Nat} (h : drawOk ws ops π = true) : DrawOk ws ops π := by
  simp only [drawOk, Bool.and_eq_true, List.all_eq_true, decide_eq_true_eq, List.mem_range, List.contains_iff_mem] at h
  obtain ⟨⟨⟨h1, h2⟩, h3⟩, h4⟩ := h
  refine ⟨behindAll_pair h1, fun i => ⟨h2 i, h3 i⟩, fun i o ho e he hb => ?_⟩
  have h5 := h4 (o, i) (by
    rw [List.mem_zipIdx_iff_getElem?]
    simpa using ho)
  rw [Array.all_eq_true'] at h5
  have h6 := h5 e he
  simp only [hb, Bool.not_true, Bool.false_or, Bool.and_eq_true, decide_eq_true_eq, bne_iff_ne] at h6
  exact h6

theorem reaches_listed {listed : Array Bool} (hcl : ∀ (j : Nat) (o : Oper), listed.getD j false = true → ops[j]? = some o → ∀ e ∈ o.after, Region.binds .any e = true → listed.getD e.on false = true) :
    ∀ (n j i : Nat) (o : Oper), ops[j]? = some o → (∀ e ∈ o.after, Region.binds .any e = true → listed.getD e.on false = true) → reaches ops n j i = true → listed.getD i false = true
  | 0, _, _, _, _, _, h => by cases h
  | n + 1, j, i, o, ho, hr, h => by
    unfold reaches at h
    rw [ho] at h
    simp only at h
    rw [Array.any_eq_true'] at h
    obtain ⟨e, he, hb⟩ := h
    simp only [Bool.and_eq_true, Bool.or_eq_true, beq_iff_eq] at hb
    obtain ⟨hb, hon | hon⟩ := hb
    · rw [← hon]; exact hr e he hb
    · have hl := hr e he hb
      cases hoe : ops[e.on]? with
      | none =>
        cases n with
        | zero => cases hon
        | succ n => unfold reaches at hon; rw [hoe] at hon; cases hon
      | some oe => exact reaches_listed hcl n e.on i oe hoe (hcl e.on oe hl hoe) hon

theorem wpAny_vs {π : List Nat} (hchk : DrawOk ws ops π) {G0 : IG} : ∀ (n : Nat) (R : List Nat) (listed : Array Bool), R.length = n → listed.size = ops.size →
    R.Pairwise (Behind ws ops) → (∀ i, i < ops.size → (listed.getD i true = false ↔ i ∈ R)) →
    (∀ (j : Nat) (o : Oper), listed.getD j false = true → ops[j]? = some o → ∀ e ∈ o.after, Region.binds .any e = true → listed.getD e.on false = true) →
    ∀ (env : Env) (H : Heap) (G : IG) (a : Act) (w : World), Vs P W f N Q ws ops k H R env → G0.le G → Inv W G H w → RepEnv G a env → a.tmps.size = N → a.defers = [] →
      wpAny P .any ops (After P W f N Q k G0) n listed a w := by
  intro n
  induction n with
  | zero =>
    intro R listed hn hls hp hR hcl env H G a w hV hG hI hE hN hd
    have : R = [] := List.eq_nil_of_length_eq_zero hn
    subst this
    refine ⟨?_, rfl, G, env, H, hG, hI, hE, hN, hd, hV⟩
    apply List.eq_nil_iff_forall_not_mem.2
    intro i hi
    rw [mem_ready] at hi
    obtain ⟨h0, o, ho, _⟩ := hi
    have := (hR i (Array.getElem?_eq_some_iff.1 ho).1).1 h0
    simp at this
  | succ n ih =>
    intro R listed hn hls hp hR hcl env H G a w hV hG hI hE hN hd
    refine ⟨fun hr => ?_, fun i hi => ?_⟩
    · -- the first that is left is ready
      exfalso
      match R, hn, hV, hp, hR with
      | i :: R', hn, hV, hp, hR =>
        obtain ⟨o, ho, _⟩ := hV
        have his : i < ops.size := (Array.getElem?_eq_some_iff.1 ho).1
        have : i ∈ Region.ready .any ops listed := by
          rw [mem_ready]
          refine ⟨(hR i his).2 (by simp), o, ho, fun e he hb => ?_⟩
          obtain ⟨hlt, hne⟩ := hchk.waits i o ho e he hb
          cases hl : listed.getD e.on false with
          | true => rfl
          | false =>
            exfalso
            have hels : e.on < listed.size := by omega
            have hl' : listed.getD e.on true = false := by
              simp only [Array.getD_eq_getD_getElem?, Array.getElem?_eq_getElem hels, Option.getD_some] at hl ⊢
              exact hl
            have hm := (hR e.on (by omega)).1 hl'
            simp only [List.mem_cons] at hm
            simp only [List.pairwise_cons] at hp
            rcases hm with hm | hm
            · exact hne hm
            · exact ((hp.1 _ hm).pair ho (Array.getElem?_eq_getElem hlt)).2.2 ⟨e, he, hb, rfl⟩
        rw [hr] at this
        cases this
    · rw [mem_ready] at hi
      obtain ⟨h0, oi, hoi, hall⟩ := hi
      have his : i < ops.size := (Array.getElem?_eq_some_iff.1 hoi).1
      have hm := (hR i his).1 h0
      obtain ⟨R1, R2, rfl⟩ := List.append_of_mem hm
      have hpp := List.pairwise_append.1 hp
      have hap : ∀ x ∈ R1, ∀ oj, ops[x]? = some oj → oj.apart ops oi = true ∧ clash ws oj oi = false ∧ opN oj.op = false ∧ (opN oi.op = true → opR ws oj.op ≠ 4) ∧ opF ws oj.op = false ∧ opF ws oi.op = false := by
        intro x hx oj hoj
        rcases ((hpp.2.2 x hx i (by simp)).pair hoj hoi).1 with h | hreach
        · exact h
        · exfalso
          have h1 := reaches_listed hcl 5 i x oi hoi hall hreach
          have hxs : x < ops.size := (Array.getElem?_eq_some_iff.1 hoj).1
          have h2 := (hR x hxs).2 (by simp only [List.mem_append]; exact .inl hx)
          have hxl : x < listed.size := by omega
          simp only [Array.getD_eq_getD_getElem?, Array.getElem?_eq_getElem hxl, Option.getD_some] at h1 h2
          rw [h1] at h2
          cases h2
      have goOn : ∀ (env' : Env) (H1 : Heap), Vs P W f N Q ws ops k H1 (R1 ++ R2) env' → ∀ G' a' w', G.le G' → Inv W G' H1 w' → RepEnv G' a' env' → a'.tmps.size = N → a'.defers = a.defers →
          wpAny P .any ops (After P W f N Q k G0) n (listed.setIfInBounds i true) a' w' := by
        intro env' H1 hV' G' a' w' hG' hI' hE' hN' hd'
        have hmono : ∀ x, listed.getD x false = true → (listed.setIfInBounds i true).getD x false = true := fun x hx => by
          by_cases e : i = x
          · subst e; simp [Array.getD_eq_getD_getElem?, show i < listed.size by omega]
          · rw [getD_set_ne false e]; exact hx
        refine ih (R1 ++ R2) (listed.setIfInBounds i true) (by simp at hn ⊢; omega) (by simpa using hls) ?_ (fun j hj => ?_) (fun j o hj ho e he hb => ?_) _ H1 G' a' w' hV' (hG.trans hG') hI' hE' hN' (hd'.trans hd)
        · exact List.pairwise_append.2 ⟨hpp.1, (List.pairwise_cons.1 hpp.2.1).2, fun x hx y hy => hpp.2.2 x hx y (List.mem_cons_of_mem _ hy)⟩
        · have irr : ∀ x, ¬ Behind ws ops x x := fun x h => by unfold Behind behind at h; simp at h
          have hnodup : i ∉ R1 ++ R2 := by
            rw [List.mem_append]
            rintro (h | h)
            · exact irr _ (hpp.2.2 i h i (by simp))
            · exact irr _ ((List.pairwise_cons.1 hpp.2.1).1 i h)
          by_cases hij : i = j
          · subst hij
            have : (listed.setIfInBounds i true).getD i true = true := by simp [Array.getD_eq_getD_getElem?, show i < listed.size by omega]
            rw [this]
            exact ⟨fun h => absurd h (by simp), fun h => absurd h hnodup⟩
          · rw [getD_set_ne true hij, hR j hj]
            simp only [List.mem_append, List.mem_cons]
            constructor
            · rintro (h | h | h)
              · exact .inl h
              · exact absurd h.symm hij
              · exact .inr h
            · rintro (h | h)
              · exact .inl h
              · exact .inr (.inr h)
        · by_cases e' : i = j
          · subst e'
            rw [hoi] at ho
            cases ho
            exact hmono _ (hall e he hb)
          · rw [getD_set_ne false e'] at hj
            exact hmono _ (hcl j o hj ho e he hb)
      rcases vs_take hoi R1 env H hap hV with ⟨d, H1, hok, hV'⟩ | ⟨dl, C, r, mk, hok, hV'⟩ | ⟨Q', _, hg, hok, hV'⟩
      · exact wpOp_step hoi hI hE hN hok (goOn _ H1 hV')
      · exact wpOp_new hoi hI hE hN hok fun b c G' a' w' hC hb => goOn _ _ (hV' b c hC hb) G' a' w'
      · exact wpOp_gen hoi hI hE hN hg hok fun d H1 G' a' w' hq => goOn _ _ (hV' d H1 hq) G' a' w'

/-- A region that draws its order; we go by `π`. -/
theorem run_drawP {id : Nat} (π : List Nat) {l : List Oper} (hm : P.follows .mixedOrders = true) (hchk : drawOk ws ops π = true) (hl : π.map (ops[·]?) = l.map some) (h : RunD P W f N Q ws ops k H l env) :
    RunA P W f N Q (.code (.region id ops true) :: k) env H := by
  intro G a w b cs hI hE hN hd hfn hk
  have hok := drawOk_ok hchk
  have hlen : l.length = π.length := by have := congrArg List.length hl; simpa using this.symm
  have hV := vs_of_runD l π env H hlen (fun j i o hj hi => by
    have := congrArg (fun x : List (Option Oper) => x[j]?) hl
    simpa [hj, hi] using this) h
  have hcount : π.length = ops.size := by
    have hnd : π.Nodup := hok.pair.imp fun {x y} h e => by subst e; unfold Behind behind at h; simp at h
    have hperm : π.Perm (List.range ops.size) := (List.perm_ext_iff_of_nodup hnd List.nodup_range).2 fun i => by rw [List.mem_range]; exact (hok.all i).symm
    simpa using hperm.length_eq
  have hany := wpAny_vs hok (G0 := G) (k := k) (f := f) (Q := Q) ops.size π (Array.replicate ops.size false) hcount (by simp)
    hok.pair (fun i hi => by simp [hi, (hok.all i).1 hi]) (fun j o hj => by
      rw [Array.getD_eq_getD_getElem?, Array.getElem?_replicate] at hj
      split at hj <;> cases hj) env H G a w.drew hV (.refl G) hI.drew hE hN hd
  have hw := wp_region_any (id := id) hm hany
  obtain ⟨e, a', w', ⟨rfl, G1, env1, H1, hG1, hI1, hE1, hN1, hd1, hrun⟩, harr⟩ := hw b k cs
  obtain ⟨G', w2, d, H', v, fr, hS, hG, rest⟩ := hrun G1 a' w' b cs hI1 hE1 hN1 hd1 hfn hk
  exact ⟨G', w2, d, H', v, fr, Steps.trans harr hS, hG1.trans hG, rest⟩

theorem runD_ok {d : D} (hk : opW ws o.op = 0) (h : ∀ H', sameOn ws (opR ws o.op) H H' → OkAt P W ops H' o d env) (hr : RunD P W f N Q ws ops k H l (put N env o.dst d)) : RunD P W f N Q ws ops k H (o :: l) env :=
  .inl ⟨d, H, .inl ⟨hk, rfl, h⟩, hr⟩

theorem runD_op {d : D} (hk : opW ws o.op = 0) (hg : o.guard = none) (h : ∀ H', sameOn ws (opR ws o.op) H H' → OpOk P W o (ev env) H' fun d' H1 => d' = d ∧ H1 = H') (hr : RunD P W f N Q ws ops k H l (put N env o.dst d)) :
    RunD P W f N Q ws ops k H (o :: l) env :=
  runD_ok hk (fun H' hH => by unfold OkAt; rw [hg]; exact h H' hH) hr

theorem runD_guarded (hk : opW ws o.op = 0) {j : Nat} {g : Bool} (hg : o.guard = some (j, g)) {cs : List Bool} (ht : guardA ops env j g = some cs) {d : D}
    (h : ∀ H', sameOn ws (opR ws o.op) H H' → allT cs → OpOk P W o (fun x => stripL cs (ev env x)) H' fun d' H1 => d' = d ∧ H1 = H') (hr : RunD P W f N Q ws ops k H l (put N env o.dst (wrapL cs d))) :
    RunD P W f N Q ws ops k H (o :: l) env :=
  runD_ok hk (fun H' hH => by unfold OkAt; rw [hg]; exact ⟨cs, d, ht, rfl, h H' hH⟩) hr

/-- A load looks at blocks of its own sort. -/
def clsOk (ws : Cl) (ρ : Operand → D) : Op → Prop
  | .load t a => match ρ a with
    | .v (.pointer (some ⟨b, _, none⟩)) => ws.kb b = ws.oc (.load t a)
    | _ => True
  | _ => True
theorem Cl.plain.clsOk {ws : Cl} (h : ws.plain) (ρ : Operand → D) (op : Op) : clsOk ws ρ op := by
  cases op <;> first | exact trivial | skip
  simp only [Go.Sn.clsOk]
  split
  · rw [h.1, h.2]
  · exact trivial

/-- One that turns a block. -/
theorem runD_turn {d : D} {b : Nat} {r0 r : Res} (hk : Wr (opW ws o.op)) (hg : o.guard = none) (hb : H b = some r0) (h0 : clsR ws b r0 = opW ws o.op) (h1 : clsR ws b r = opW ws o.op)
    (h : ∀ H', sameOn ws (opR ws o.op) H H' → OpOk P W o (ev env) H' fun d' H2 => d' = d ∧ H2 = H'.set b r) (hr : RunD P W f N Q ws ops k (H.set b r) l (put N env o.dst d)) : RunD P W f N Q ws ops k H (o :: l) env :=
  .inl ⟨d, _, .inr (.inl ⟨hk, hg, b, r0, r, hb, h0, h1, rfl, h⟩), hr⟩

theorem loadA_same {t : TypeId} {H' : Heap} {x : D} {r : Prop × D} {m : Bool} (h : sameOn ws (cc m) H H') (hc : ∀ b o, x = .v (.pointer (some ⟨b, o, none⟩)) → ws.kb b = m) (hv : loadA P H t x = some r) : loadA P H' t x = some r := by
  unfold loadA at hv ⊢
  split at hv
  · rename_i b o
    split at hv
    · rename_i ds e hb
      have hm := (Wr.cc m).ne
      simp only [h.1 hm.1 hm.2.1 _ _ hb (by simp only [clsR, hc b o rfl])]
      exact hv
    · cases hv
  · exact hv
  · cases hv
theorem lenA_same {t : TypeId} {H' : Heap} {x : D} {r : Prop × D} (h : sameOn ws 2 H H') (hv : lenA P H t x = some r) : lenA P H' t x = some r := by
  unfold lenA at hv ⊢
  split at hv
  · exact hv
  · exact hv
  · exact hv
  · split at hv
    · exact hv
    · split at hv
      · rename_i es hb
        simp only [h.1 (by omega) (by omega) _ _ hb rfl]
        exact hv
      · cases hv
    · cases hv
  · cases hv

theorem valA_same {ρ : Operand → D} {op : Op} {r : Prop × D} {H' : Heap} (hv : valA P ρ H op = some r) (hc : clsOk ws ρ op) (h : sameOn ws (opR ws op) H H') : valA P ρ H' op = some r := by
  cases op <;> first | exact hv | skip
  case load t a => exact loadA_same h (fun b o e => by simpa only [clsOk, e] using hc) hv
  case call c =>
    obtain ⟨callee, args, ats⟩ := c
    cases callee with
    | builtin b =>
      cases b <;> first | exact hv | skip
      simp only [valA] at hv ⊢
      split at hv
      · exact lenA_same h hv
      · cases hv
    | _ => exact hv

theorem opOk_valK {ρ : Operand → D} {p : Prop} {r : D} (hv : valA P ρ H o.op = some (p, r)) (hp : p) (hc : clsOk ws ρ o.op) (H' : Heap) (hH : sameOn ws (opR ws o.op) H H') :
    OpOk P W o ρ H' fun d' H1 => d' = r ∧ H1 = H' := opOk_val (valA_same hv hc hH) hp ⟨rfl, rfl⟩

theorem valA_le {ρ : Operand → D} {op : Op} {r : Prop × D} (hv : valA P ρ H op = some r) : opW ws op = 0 := by
  cases op <;> simp only [opW] <;> first | (simp [valA] at hv; done) | skip
  rename_i c
  obtain ⟨callee, args, ats⟩ := c
  cases callee with
  | value x => simp [valA] at hv
  | _ => rfl

theorem runD_stepV {p : Prop} {env' : Env} (hc : ∀ ρ, clsOk ws ρ o.op) (h : stepV P N ops env H o = some (p, env')) (hp : p) (hr : RunD P W f N Q ws ops k H l env') : RunD P W f N Q ws ops k H (o :: l) env := by
  unfold stepV at h
  split at h
  · rename_i hg
    split at h
    · rename_i p' d hv
      simp at h
      obtain ⟨hp', rfl⟩ := h
      exact runD_op (valA_le hv) hg (fun H' hH => opOk_valK hv (by rw [hp']; exact hp) (hc _) H' hH) hr
    · cases h
  · rename_i j g hg
    split at h
    · rename_i cs ht
      split at h
      · rename_i p' d hv
        simp at h
        obtain ⟨hp', rfl⟩ := h
        rw [← hp'] at hp
        exact runD_guarded (valA_le hv) hg ht (fun H' hH ha => opOk_valK hv (hp ha) (hc _) H' hH) hr
      · cases h
    · cases h

/-- As far as no call is met. -/
def GoD (P : Program) (W : World) (f : FuncId) (N : Nat) (Q : D → Heap → Prop) (ws : Cl) (ops : Array Oper) (k : List Item) (H : Heap) : List Oper → Env → Prop
  | [], env => RunA P W f N Q k env H
  | o :: l, env => match stepV P N ops env H o with
    | some (p, env') => p ∧ GoD P W f N Q ws ops k H l env'
    | none => RunD P W f N Q ws ops k H (o :: l) env

theorem runD_go (hws : ws.plain) : ∀ (l : List Oper) (env : Env), GoD P W f N Q ws ops k H l env → RunD P W f N Q ws ops k H l env
  | [], env, h => h
  | o :: l, env, h => by
    unfold GoD at h
    split at h
    · rename_i p env' hs
      exact runD_stepV (fun ρ => hws.clsOk ρ o.op) hs h.1 (runD_go hws l env' h.2)
    · exact h

theorem run_drawGo (ws : Cl) (hws : ws.plain) {id : Nat} {l : List Oper} (hm : P.follows .mixedOrders = true) (hchk : drawOk ws l.toArray (List.range l.length) = true) (h : GoD P W f N Q ws l.toArray k H l env) :
    RunA P W f N Q (.code (.region id l.toArray true) :: k) env H :=
  run_drawP (List.range l.length) hm hchk (by
    apply List.ext_getElem (by simp)
    intro i h1 h2
    simp at h1 h2
    simp [h1]) (runD_go hws l env h)
/-- The operations in another order. -/
def permL (l : List Oper) : List Nat → List Oper
  | [] => []
  | i :: π => match l[i]? with
    | some o => o :: permL l π
    | none => permL l π
theorem permL_eq {l : List Oper} : ∀ {π : List Nat}, (∀ i ∈ π, i < l.length) → π.map (l.toArray[·]?) = (permL l π).map some
  | [], _ => rfl
  | i :: π, h => by
    have hi : i < l.length := h i (by simp)
    have ih := permL_eq (π := π) fun j hj => h j (by simp [hj])
    simp only [List.map_cons, permL, List.getElem?_eq_getElem hi, ih]
    simp [hi]
theorem run_drawGoP (ws : Cl) (hws : ws.plain) (π : List Nat) {id : Nat} {l : List Oper} (hm : P.follows .mixedOrders = true) (hchk : drawOk ws l.toArray π = true) (h : GoD P W f N Q ws l.toArray k H (permL l π) env) :
    RunA P W f N Q (.code (.region id l.toArray true) :: k) env H :=
  run_drawP π hm hchk (permL_eq fun i hi => by simpa using ((drawOk_ok hchk).all i).2 hi) (runD_go hws _ env h)

/-- .. where blocks are of two sorts. -/
def GoC (P : Program) (W : World) (f : FuncId) (N : Nat) (Q : D → Heap → Prop) (ws : Cl) (ops : Array Oper) (k : List Item) (H : Heap) : List Oper → Env → Prop
  | [], env => RunA P W f N Q k env H
  | o :: l, env => match o.guard, stepV P N ops env H o with
    | none, some (p, env') => (clsOk ws (ev env) o.op ∧ p) ∧ GoC P W f N Q ws ops k H l env'
    | _, _ => RunD P W f N Q ws ops k H (o :: l) env
theorem runD_goC : ∀ (l : List Oper) (env : Env), GoC P W f N Q ws ops k H l env → RunD P W f N Q ws ops k H l env
  | [], env, h => h
  | o :: l, env, h => by
    unfold GoC at h
    split at h
    · rename_i p env' hg hs
      have ih := runD_goC l env' h.2
      have hs' := hs
      unfold stepV at hs'
      rw [hg] at hs'
      simp only at hs'
      split at hs'
      · rename_i p' d hv
        simp at hs'
        obtain ⟨hp', rfl⟩ := hs'
        exact runD_op (valA_le hv) hg (fun H' hH => opOk_valK hv (by rw [hp']; exact h.1.2) h.1.1 H' hH) ih
      · cases hs'
    · exact h
theorem run_drawGoC (ws : Cl) {id : Nat} {l : List Oper} (hm : P.follows .mixedOrders = true) (hchk : drawOk ws l.toArray (List.range l.length) = true) (h : GoC P W f N Q ws l.toArray k H l env) :
    RunA P W f N Q (.code (.region id l.toArray true) :: k) env H :=
  run_drawP (List.range l.length) hm hchk (by
    apply List.ext_getElem (by simp)
    intro i h1 h2
    simp at h1 h2
    simp [h1]) (runD_goC l env h)

section lits
variable {dst : Option Tmp} {ty : TypeId} {pos : String} {aft : Array Edge}

theorem runD_callF {h : FuncId} {args : Array Operand} {ats : Array TypeId} (hk : Known P h) (hp : ws.ps h = false) {d : D}
    (hK : CallA P W h (args.toList.map (fun x => (ev env x).flat)) H fun d' H' => d' = d ∧ H' = H) (hr : RunD P W f N Q ws ops k H l (put N env dst d)) :
    RunD P W f N Q ws ops k H (⟨dst, .call ⟨.value (.func h), args, ats⟩, ty, pos, aft, none⟩ :: l) env := by
  obtain ⟨fn, h1, h2, h3⟩ := hk.known
  have hop : OpOk P W (⟨dst, .call ⟨.value (.func h), args, ats⟩, ty, pos, aft, none⟩ : Oper) (ev env) H fun d' H' => d' = d ∧ H' = H :=
    opOk_call (c := ⟨.value (.func h), args, ats⟩) (g := .func h) (first := #[]) (captured := #[]) rfl rfl rfl h1 h2 h3 (by simpa using hK)
  cases hw : ws.fs h with
  | false => exact runD_op (by simp [opW, hw]) rfl (fun H' hH => by rw [hH.2 (by simp [opR, hp])]; exact hop) hr
  | true => exact .inl ⟨d, H, .inr (.inr ⟨by simp [opW, hw], rfl, hop⟩), hr⟩

/-- One whose call stands alone. -/
theorem runD_callX {h : FuncId} {args : Array Operand} {ats : Array TypeId} (hk : Known P h) (hf : ws.fe h = true) {Q' : D → Heap → Prop}
    (hK : CallA P W h (args.toList.map (fun x => (ev env x).flat)) H Q') (hr : ∀ d H1, Q' d H1 → RunD P W f N Q ws ops k H1 l (put N env dst d)) :
    RunD P W f N Q ws ops k H (⟨dst, .call ⟨.value (.func h), args, ats⟩, ty, pos, aft, none⟩ :: l) env := by
  obtain ⟨fn, h1, h2, h3⟩ := hk.known
  exact .inr (.inr ⟨Q', by simp [opF, hf], rfl, opOk_call (c := ⟨.value (.func h), args, ats⟩) (g := .func h) (first := #[]) (captured := #[]) rfl rfl rfl h1 h2 h3 (by simpa using hK), hr⟩)
/-- One that looks at nothing of ours. -/
theorem runD_callP {h : FuncId} {args : Array Operand} {ats : Array TypeId} (hk : Known P h) (hw : ws.fs h = false) {d : D}
    (hK : ∀ H', CallA P W h (args.toList.map (fun x => (ev env x).flat)) H' fun d' H1 => d' = d ∧ H1 = H') (hr : RunD P W f N Q ws ops k H l (put N env dst d)) :
    RunD P W f N Q ws ops k H (⟨dst, .call ⟨.value (.func h), args, ats⟩, ty, pos, aft, none⟩ :: l) env := by
  obtain ⟨fn, h1, h2, h3⟩ := hk.known
  exact runD_op (by simp [opW, hw]) rfl (fun H' hH => opOk_call (c := ⟨.value (.func h), args, ats⟩) (g := .func h) (first := #[]) (captured := #[]) rfl rfl rfl h1 h2 h3 (by simpa using hK H')) hr

/-- One that turns the heap. -/
theorem runD_callH {h : FuncId} {args : Array Operand} {ats : Array TypeId} (hk : Known P h) (hw : ws.fs h = true) {d : D} {H1 : Heap}
    (hK : CallA P W h (args.toList.map (fun x => (ev env x).flat)) H fun d' H' => d' = d ∧ H' = H1) (hr : RunD P W f N Q ws ops k H1 l (put N env dst d)) :
    RunD P W f N Q ws ops k H (⟨dst, .call ⟨.value (.func h), args, ats⟩, ty, pos, aft, none⟩ :: l) env := by
  obtain ⟨fn, h1, h2, h3⟩ := hk.known
  exact .inl ⟨d, H1, .inr (.inr ⟨by simp [opW, hw], rfl, opOk_call (c := ⟨.value (.func h), args, ats⟩) (g := .func h) (first := #[]) (captured := #[]) rfl rfl rfl h1 h2 h3 (by simpa using hK)⟩), hr⟩

theorem runD_callFG {h : FuncId} {args : Array Operand} {ats : Array TypeId} {j : Nat} {g : Bool} {cs : List Bool} (hk : Known P h) (hw : ws.fs h = false ∧ ws.ps h = false) (ht : guardA ops env j g = some cs) {d : D}
    (hK : allT cs → CallA P W h (args.toList.map (fun x => (stripL cs (ev env x)).flat)) H fun d' H' => d' = d ∧ H' = H)
    (hr : RunD P W f N Q ws ops k H l (put N env dst (wrapL cs d))) :
    RunD P W f N Q ws ops k H (⟨dst, .call ⟨.value (.func h), args, ats⟩, ty, pos, aft, some (j, g)⟩ :: l) env := by
  obtain ⟨fn, h1, h2, h3⟩ := hk.known
  refine runD_guarded (by simp [opW, hw.1]) rfl ht (fun H' hH hc => ?_) hr
  rw [hH.2 (by simp [opR, hw.2])]
  refine opOk_call (c := ⟨.value (.func h), args, ats⟩) (g := .func h) (first := #[]) (captured := #[]) rfl rfl ?_ h1 h2 h3 (by simpa using hK hc)
  have : ∀ l : List Bool, stripL l (ev env (.func h)) = .v (.func (.func h) #[] #[]) := by
    intro l
    induction l with
    | nil => rfl
    | cons c l ih => exact ih
  exact this cs

theorem runD_buildSlice {t e n sz : Nat} {parts : Array (Nat × Operand)} {z : List D} (hu : P.underlying t = some (.slice e))
    (hsz : szT P e = some sz) (hz : zeroT P e = some z) (hzl : z.length = sz) (hn : parts.toList.length = n) (hfull : fullParts (partsA (ev env) parts.toList) 0 = true)
    (hs : (partsA (ev env) parts.toList).all (fun x => x.2.cells.length == sz && x.2.stor) = true) (hle : n * sz ≤ 16777216)
    (h : RunD P W f N Q ws ops k H l (put N env dst (if n = 0 then .nil else .list ((partsA (ev env) parts.toList).map fun x => x.2.cells.map D.flat)))) :
    RunD P W f N Q ws ops k H (⟨dst, .buildSlice t n parts, ty, pos, aft, none⟩ :: l) env :=
  runD_op (by simp [opW]) rfl (fun H' _ => opOk_buildSlice rfl hu hsz hz hzl hn hfull (by simpa using hs) hle ⟨rfl, rfl⟩) h
theorem runD_buildSliceG {t e n sz : Nat} {parts : Array (Nat × Operand)} {z : List D} {j : Nat} {g : Bool} {cs : List Bool} (ht : guardA ops env j g = some cs) (hu : P.underlying t = some (.slice e))
    (hsz : szT P e = some sz) (hz : zeroT P e = some z) (hzl : z.length = sz) (hn : parts.toList.length = n) (hfull : fullParts (partsA (fun x => stripL cs (ev env x)) parts.toList) 0 = true)
    (hs : (partsA (fun x => stripL cs (ev env x)) parts.toList).all (fun x => x.2.cells.length == sz && x.2.stor) = true) (hle : n * sz ≤ 16777216)
    (h : RunD P W f N Q ws ops k H l (put N env dst (wrapL cs (if n = 0 then .nil else .list ((partsA (fun x => stripL cs (ev env x)) parts.toList).map fun x => x.2.cells.map D.flat))))) :
    RunD P W f N Q ws ops k H (⟨dst, .buildSlice t n parts, ty, pos, aft, some (j, g)⟩ :: l) env :=
  runD_guarded (by simp [opW]) rfl ht (fun H' _ _ => opOk_buildSlice rfl hu hsz hz hzl hn hfull (by simpa using hs) hle ⟨rfl, rfl⟩) h

/-- A call of a function value that the text has made. -/
theorem runO_callV {t : Tmp} {h : FuncId} {captured : Array Value} {args : Array Operand} {ats : Array TypeId} (hv : ev env (.tmp t) = .v (.func (.func h) #[] captured)) (hk : Known P h)
    (hK : CallA P W h (args.toList.map (fun x => (ev env x).flat) ++ captured.toList.map .v) H fun d H' => RunO P W f N Q ops l k (put N env dst d) H') :
    RunO P W f N Q ops (⟨dst, .call ⟨.value (.tmp t), args, ats⟩, ty, pos, aft, none⟩ :: l) k env H :=
  runO_call (first := #[]) rfl rfl rfl hv hk (by simpa using hK)

theorem runD_callVG {t : Tmp} {h : FuncId} {captured : Array Value} {args : Array Operand} {ats : Array TypeId} {j : Nat} {g : Bool} {cs : List Bool} (ht : guardA ops env j g = some cs)
    (hv : stripL cs (ev env (.tmp t)) = .v (.func (.func h) #[] captured)) (hk : Known P h) (hw : ws.dv = false) {d : D}
    (hK : allT cs → CallA P W h (args.toList.map (fun x => (stripL cs (ev env x)).flat) ++ captured.toList.map .v) H fun d' H' => d' = d ∧ H' = H)
    (hr : RunD P W f N Q ws ops k H l (put N env dst (wrapL cs d))) :
    RunD P W f N Q ws ops k H (⟨dst, .call ⟨.value (.tmp t), args, ats⟩, ty, pos, aft, some (j, g)⟩ :: l) env := by
  obtain ⟨fn, h1, h2, h3⟩ := hk.known
  exact runD_guarded (by simp [opW, hw]) rfl ht (fun H' hH hc => by rw [hH.2 (by simp [opR])]; exact opOk_call (c := ⟨.value (.tmp t), args, ats⟩) (g := .tmp t) (first := #[]) rfl rfl hv h1 h2 h3 (by simpa using hK hc)) hr
theorem runD_callV {t : Tmp} {h : FuncId} {captured : Array Value} {args : Array Operand} {ats : Array TypeId}
    (hv : ev env (.tmp t) = .v (.func (.func h) #[] captured)) (hk : Known P h) {d : D}
    (hK : CallA P W h (args.toList.map (fun x => (ev env x).flat) ++ captured.toList.map .v) H fun d' H' => d' = d ∧ H' = H)
    (hr : RunD P W f N Q ws ops k H l (put N env dst d)) :
    RunD P W f N Q ws ops k H (⟨dst, .call ⟨.value (.tmp t), args, ats⟩, ty, pos, aft, none⟩ :: l) env := by
  obtain ⟨fn, h1, h2, h3⟩ := hk.known
  have hop : OpOk P W (⟨dst, .call ⟨.value (.tmp t), args, ats⟩, ty, pos, aft, none⟩ : Oper) (ev env) H fun d' H' => d' = d ∧ H' = H :=
    opOk_call (c := ⟨.value (.tmp t), args, ats⟩) (g := .tmp t) (first := #[]) rfl rfl hv h1 h2 h3 (by simpa using hK)
  cases hw : ws.dv with
  | false => exact runD_op (by simp [opW, hw]) rfl (fun H' hH => by rw [hH.2 (by simp [opR])]; exact hop) hr
  | true => exact .inl ⟨d, H, .inr (.inr ⟨by simp [opW, hw], rfl, hop⟩), hr⟩
/-- One of a function value that turns the heap. -/
theorem runD_callVH {t : Tmp} {h : FuncId} {captured : Array Value} {args : Array Operand} {ats : Array TypeId}
    (hv : ev env (.tmp t) = .v (.func (.func h) #[] captured)) (hk : Known P h) (hw : ws.dv = true) {d : D} {H1 : Heap}
    (hK : CallA P W h (args.toList.map (fun x => (ev env x).flat) ++ captured.toList.map .v) H fun d' H' => d' = d ∧ H' = H1)
    (hr : RunD P W f N Q ws ops k H1 l (put N env dst d)) :
    RunD P W f N Q ws ops k H (⟨dst, .call ⟨.value (.tmp t), args, ats⟩, ty, pos, aft, none⟩ :: l) env := by
  obtain ⟨fn, h1, h2, h3⟩ := hk.known
  exact .inl ⟨d, H1, .inr (.inr ⟨by simp [opW, hw], rfl, opOk_call (c := ⟨.value (.tmp t), args, ats⟩) (g := .tmp t) (first := #[]) rfl rfl hv h1 h2 h3 (by simpa using hK)⟩), hr⟩
/-- One whose guard does not hold: whatever it would do. -/
theorem runD_skipF {op : Op} {j : Nat} {g : Bool} {cs : List Bool} (hk : opW ws op = 0) (ht : guardA ops env j g = some cs) (hF : cs.all id = false)
    (h : RunD P W f N Q ws ops k H l (put N env dst (wrapL cs (.v (.bool false))))) : RunD P W f N Q ws ops k H (⟨dst, op, ty, pos, aft, some (j, g)⟩ :: l) env :=
  runD_guarded hk rfl ht (fun H' _ ha => absurd ha (by rw [allT_all]; rw [hF]; simp)) h
theorem runO_skipF {op : Op} {j : Nat} {g : Bool} {cs : List Bool} (ht : guardA ops env j g = some cs) (hF : cs.all id = false)
    (h : RunO P W f N Q ops l k (put N env dst (wrapL cs (.v (.bool false)))) H) : RunO P W f N Q ops (⟨dst, op, ty, pos, aft, some (j, g)⟩ :: l) k env H :=
  runO_guarded rfl ht (fun ha => absurd ha (by rw [allT_all]; rw [hF]; simp)) h
theorem runD_new {o : Oper} {r : Res} {mk : Nat → D} (ho : opN o.op = true) (hg : o.guard = none) (hop : ∀ (H' : Heap) (K : D → Heap → Prop), (∀ b, H' b = none → K (mk b) (H'.set b r)) → OpOk P W o (ev env) H' K)
    (h : ∀ b, H b = none → RunD P W f N Q ws ops k (H.set b r) l (put N env o.dst (mk b))) : RunD P W f N Q ws ops k H (o :: l) env :=
  .inr (.inl ⟨none, fun _ => True, fun _ => r, fun b _ => mk b, ⟨ho, hg, (fun b e => by cases e), fun H' _ K hK => hop H' K fun b hb => hK b 0 trivial hb⟩, fun b c _ hb => h b hb⟩)
theorem runD_box {t : TypeId} {x : Operand} (hs : (ev env x).stor = true)
    (h : ∀ b, H b = none → RunD P W f N Q ws ops k (H.set b (.cells (ev env x).cells t)) l (put N env dst (.v (.pointer (some ⟨b, 0, none⟩))))) :
    RunD P W f N Q ws ops k H (⟨dst, .box t x, ty, pos, aft, none⟩ :: l) env := runD_new (mk := fun b => .v (.pointer (some ⟨b, 0, none⟩))) rfl rfl (fun H' K hK => opOk_box rfl hs hK) h
theorem runD_alloc {t : TypeId} {z : List D} (hz : zeroT P t = some z)
    (h : ∀ b, H b = none → RunD P W f N Q ws ops k (H.set b (.cells z t)) l (put N env dst (.v (.pointer (some ⟨b, 0, none⟩))))) :
    RunD P W f N Q ws ops k H (⟨dst, .alloc t, ty, pos, aft, none⟩ :: l) env := runD_new (mk := fun b => .v (.pointer (some ⟨b, 0, none⟩))) rfl rfl (fun H' K hK => opOk_alloc rfl hz hK) h
theorem runD_make_cells {t e sz by_ : Nat} {z : List D} {x y : Operand} {k1 k2 : IntKind} {c : Nat}
    (hu : P.underlying t = some (.slice e)) (hsz : szT P e = some sz) (hby : bytesT P e = some by_) (hz : zeroT P e = some z) (hzl : z.length = sz) (hpos : 0 < sz) (hx : ev env x = .v (.int k1 (c : Int))) (hy : ev env y = .v (.int k2 (c : Int)))
    (hlen : c * by_ ≤ 140737488355328) (hlen2 : c ≤ maxLen) (h : ∀ b, H b = none → RunD P W f N Q ws ops k (H.set b (.cells (List.replicate c z).flatten e)) l (put N env dst (.v (.slice (some ⟨b, 0, none⟩) c c)))) :
    RunD P W f N Q ws ops k H (⟨dst, .makeSlice t x y, ty, pos, aft, none⟩ :: l) env :=
  runD_new (mk := fun b => .v (.slice (some ⟨b, 0, none⟩) c c)) rfl rfl (fun H' K hK => opOk_make_cells rfl hu hsz hby hz hzl hpos hx hy hlen hlen2 hK) h
theorem runD_append_nil0 {s x : Operand} {t e sz by_ : Nat} {z : List D} (hu : P.underlying t = some (.slice e)) (hsz : szT P e = some sz) (hby : bytesT P e = some by_) (hz : zeroT P e = some z) (hzl : z.length = sz) (hs : ev env s = .nil) (hx : (ev env x).elems = some [])
    (h : RunD P W f N Q ws ops k H l (put N env dst .nil)) : RunD P W f N Q ws ops k H (⟨dst, .call ⟨.builtin .append, #[s, x], #[t, t]⟩, ty, pos, aft, none⟩ :: l) env :=
  runD_op rfl rfl (fun H' _ => opOk_append_nil rfl hu hsz hby hz hzl hs hx (by simp) (by simp) (by simp) (fun _ => ⟨rfl, rfl⟩) (fun h => absurd rfl h)) h
theorem runD_append_nil {s x : Operand} {t e sz by_ : Nat} {z : List D} {ys : List (List D)} (hu : P.underlying t = some (.slice e)) (hsz : szT P e = some sz) (hby : bytesT P e = some by_) (hz : zeroT P e = some z) (hzl : z.length = sz) (hs : ev env s = .nil) (hx : (ev env x).elems = some ys)
    (hsy : ∀ ds ∈ ys, ds.length = sz) (hlen : ys.length * by_ ≤ 140737488355328) (hlen2 : ys.length ≤ maxLen) (hne : ys ≠ [])
    (h : ∀ b cap, H b = none → RunD P W f N Q ws ops k (H.set b (.grow e ys.length cap sz)) l (put N env dst (.own b cap ys))) :
    RunD P W f N Q ws ops k H (⟨dst, .call ⟨.builtin .append, #[s, x], #[t, t]⟩, ty, pos, aft, none⟩ :: l) env :=
  .inr <| .inl ⟨none, fun _ => True, fun c => .grow e ys.length c sz, fun b c => .own b c ys, ⟨rfl, rfl, (fun b e => by cases e), fun H' _ K hK =>
    opOk_append_nil rfl hu hsz hby hz hzl hs hx hsy hlen hlen2 (fun e => absurd e hne) fun _ b cap hb => hK b cap trivial hb⟩, fun b c _ hb => h b c hb⟩
theorem runD_append_own {s x : Operand} {t e sz by_ b cap : Nat} {z : List D} {xs ys : List (List D)} (hu : P.underlying t = some (.slice e)) (hsz : szT P e = some sz) (hby : bytesT P e = some by_) (hz : zeroT P e = some z) (hzl : z.length = sz) (hs : ev env s = .own b cap xs) (hx : (ev env x).elems = some ys)
    (hb : H b = some (.grow e xs.length cap sz)) (hsx : ∀ ds ∈ xs, ds.length = sz) (hsy : ∀ ds ∈ ys, ds.length = sz) (hlen : (xs.length + ys.length) * by_ ≤ 140737488355328) (hlen2 : xs.length + ys.length ≤ maxLen)
    (h : ∀ b' cap', (H.del b) b' = none → RunD P W f N Q ws ops k ((H.del b).set b' (.grow e (xs.length + ys.length) cap' sz)) l (put N env dst (.own b' cap' (xs ++ ys)))) :
    RunD P W f N Q ws ops k H (⟨dst, .call ⟨.builtin .append, #[s, x], #[t, t]⟩, ty, pos, aft, none⟩ :: l) env :=
  .inr <| .inl ⟨some b, fun _ => True, fun c => .grow e (xs.length + ys.length) c sz, fun b c => .own b c (xs ++ ys), ⟨rfl, rfl, (fun b' e => by cases e; exact ⟨_, hb, rfl⟩), fun H' hH K hK =>
    opOk_append_own rfl hu hsz hby hz hzl hs hx ((hH b rfl).trans hb) hsx hsy hlen hlen2 fun b' cap' hb' => hK b' cap' trivial hb'⟩, fun b' c _ hb' => h b' c hb'⟩
theorem runD_coll {s x : Operand} {t e sz by_ : Nat} {z : List D} {H0 : Heap} {xs ys : List (List D)}
    (hu : P.underlying t = some (.slice e)) (hsz : szT P e = some sz) (hby : bytesT P e = some by_) (hz : zeroT P e = some z) (hzl : z.length = sz) (hc : Coll H0 e sz xs (ev env s) H) (hx : (ev env x).elems = some ys)
    (hsx : ∀ ds ∈ xs, ds.length = sz) (hsy : ∀ ds ∈ ys, ds.length = sz) (hlen : (xs.length + ys.length) * by_ ≤ 140737488355328) (hlen2 : xs.length + ys.length ≤ maxLen)
    (h : ∀ d H', Coll H0 e sz (xs ++ ys) d H' → RunD P W f N Q ws ops k H' l (put N env dst d)) :
    RunD P W f N Q ws ops k H (⟨dst, .call ⟨.builtin .append, #[s, x], #[t, t]⟩, ty, pos, aft, none⟩ :: l) env := by
  generalize hs : ev env s = d at hc
  cases hc with
  | none h0 =>
    subst h0
    simp only [List.length_nil, Nat.zero_add] at hlen hlen2
    by_cases hne : ys = []
    · subst hne
      exact runD_append_nil0 hu hsz hby hz hzl hs hx (h _ _ (.none (by simp)))
    · exact runD_append_nil hu hsz hby hz hzl hs hx hsy hlen hlen2 hne fun b cap hb => h _ _ (by simpa using Coll.some (xs := ys) b cap hb)
  | some b cap hb =>
    have hdel : (H0.set b (.grow e xs.length cap sz)).del b = H0 := by
      funext c
      simp only [Heap.del, Heap.set]
      split
      · rename_i e; subst e; exact hb.symm
      · rfl
    refine runD_append_own hu hsz hby hz hzl hs hx (by simp [Heap.set]) hsx hsy hlen hlen2 fun b' cap' hb' => ?_
    rw [hdel] at hb' ⊢
    exact h _ _ (by simpa using Coll.some (xs := xs ++ ys) b' cap' hb')
theorem runD_store {t n : Nat} {p x : Operand} {b off : Nat} {ds : List D} {e : TypeId} (hsz : szT P t = some n)
    (hp : ev env p = .v (.pointer (some ⟨b, off, none⟩))) (hb : H b = some (.cells ds e)) (hs : (ev env x).stor = true) (hlen : (ev env x).cells.length = n) (hle : off + n ≤ ds.length) (hc : ws.kb b = ws.oc (.store t p x))
    (h : RunD P W f N Q ws ops k (H.set b (.cells (ds.take off ++ (ev env x).cells ++ ds.drop (off + n)) e)) l (put N env dst (.v undef))) :
    RunD P W f N Q ws ops k H (⟨dst, .store t p x, ty, pos, aft, none⟩ :: l) env :=
  runD_turn (Wr.cc _) rfl hb (by simp only [clsR, opW, hc]) (by simp only [clsR, opW, hc]) (fun H' hH => opOk_store rfl hsz hp (hH.1 (Wr.cc _).ne.1 (Wr.cc _).ne.2.1 _ _ hb (by simp only [clsR, opR, hc])) hs hlen hle ⟨rfl, rfl⟩) h
end lits
end
/-- Stores go to the block `p`, loads elsewhere. -/
def Cl.st (p : Nat) : Cl := ⟨fun _ => false, fun op => match op with | .store _ _ _ => true | _ => false, fun b => decide (b = p), false, fun _ => false, fun _ => false⟩
/-- Loads of the type `T` are of the block `p`, all else is elsewhere. -/
def Cl.ty (T p : Nat) : Cl := ⟨fun _ => false, fun op => match op with | .load t _ => decide (t = T) | _ => false, fun b => decide (b = p), false, fun _ => false, fun _ => false⟩
theorem Cl.st_kb (p b : Nat) : (Cl.st p).kb b = decide (b = p) := rfl
theorem Cl.st_load (p t : Nat) (a : Operand) : (Cl.st p).oc (.load t a) = false := rfl
theorem Cl.st_store (p t : Nat) (a x : Operand) : (Cl.st p).oc (.store t a x) = true := rfl
theorem Cl.ty_kb (T p b : Nat) : (Cl.ty T p).kb b = decide (b = p) := rfl
theorem Cl.ty_load (T p t : Nat) (a : Operand) : (Cl.ty T p).oc (.load t a) = decide (t = T) := rfl
theorem Cl.ty_store (T p t : Nat) (a x : Operand) : (Cl.ty T p).oc (.store t a x) = false := rfl
theorem Cl.dyn_kb (b : Nat) : Cl.dyn.kb b = false := rfl
theorem Cl.dyn_oc (op : Op) : Cl.dyn.oc op = false := rfl
/-- One function's calls look at nothing of ours. -/
def Cl.pure (g : Nat) : Cl := ⟨fun _ => false, fun _ => false, fun _ => false, false, fun f => f == g, fun _ => false⟩
/-- One function's calls stand alone. -/
def Cl.alone (g : Nat) : Cl := ⟨fun f => f == g, fun _ => false, fun _ => false, false, fun _ => false, fun f => f == g⟩
theorem Cl.alone_kb (g b : Nat) : (Cl.alone g).kb b = false := rfl
theorem Cl.alone_oc (g : Nat) (op : Op) : (Cl.alone g).oc op = false := rfl
theorem Cl.pure_kb (g b : Nat) : (Cl.pure g).kb b = false := rfl
theorem Cl.pure_oc (g : Nat) (op : Op) : (Cl.pure g).oc op = false := rfl
attribute [go_sem] Cl.alone_kb Cl.alone_oc Cl.pure_kb Cl.pure_oc Cl.dyn_kb Cl.dyn_oc GoD GoC clsOk permL Cl.st_kb Cl.st_load Cl.st_store Cl.ty_kb Cl.ty_load Cl.ty_store
end Go.Sn
