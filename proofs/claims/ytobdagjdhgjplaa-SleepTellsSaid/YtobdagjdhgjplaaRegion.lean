/-
  A program logic over the kit's `Calls`. Part 6: regions.
-/
import Derived.Test.YtobdagjdhgjplaaRun
namespace Go.Sn
open Go Go.RowKit
set_option linter.unusedVariables false
set_option linter.unusedSimpArgs false

/-- What a region's rest leaves. -/
def After (P : Program) (W : World) (f : FuncId) (N : Nat) (Q : D → Heap → Prop) (k : List Item) (G : IG) : Exit → Act → World → Prop :=
  fun e a' w' => e = .normal ∧ ∃ G' env' H', G.le G' ∧ Inv W G' H' w' ∧ RepEnv G' a' env' ∧ a'.tmps.size = N ∧ a'.defers = [] ∧ RunA P W f N Q k env' H'

theorem After.le {P : Program} {W : World} {f : FuncId} {N : Nat} {Q : D → Heap → Prop} {k : List Item} {G G0 : IG} (h0 : G0.le G) {e : Exit} {a : Act} {w : World}
    (h : After P W f N Q k G e a w) : After P W f N Q k G0 e a w := by
  obtain ⟨he, G', env', H', hG, rest⟩ := h
  exact ⟨he, G', env', H', h0.trans hG, rest⟩

/-- The operations `l` of a region are still to be done, in this order, then `k`. -/
def RunO (P : Program) (W : World) (f : FuncId) (N : Nat) (Q : D → Heap → Prop) (ops : Array Oper) (l : List Oper) (k : List Item) (env : Env) (H : Heap) : Prop :=
  ∀ (is : List Nat), is.map (ops[·]?) = l.map some → ∀ (G : IG) (a : Act) (w : World), Inv W G H w → RepEnv G a env → a.tmps.size = N → a.defers = [] →
    wpOps P ops (After P W f N Q k G) is a w

/-- What one operation does: a value, a skip, a call. -/
def OpOk (P : Program) (W : World) (o : Oper) (ρ : Operand → D) (H : Heap) (K : D → Heap → Prop) : Prop :=
  ∀ (G : IG) (a : Act) (w : World) (next : Act → World → Prop) (Qx : Exit → Act → World → Prop), Inv W G H w → (∀ x ∈ o.op.operands, Rep G (a.eval x) (ρ x)) →
    (∀ v d H' G' w', G.le G' → Inv W G' H' w' → Rep G' v d → K d H' → next (a.put o.dst v) w') → o.wp P a w next Qx

section
variable {P : Program} {W : World} {f : FuncId} {N : Nat} {Q : D → Heap → Prop} {ops : Array Oper} {l : List Oper} {o : Oper} {k : List Item} {env : Env} {H : Heap}

theorem OpOk.mono {ρ : Operand → D} {K K' : D → Heap → Prop} (h : OpOk P W o ρ H K) (hk : ∀ d H', K d H' → K' d H') : OpOk P W o ρ H K' :=
  fun G a w next Qx hI hρ hn => h G a w next Qx hI hρ fun v d H' G' w' h1 h2 h3 h4 => hn v d H' G' w' h1 h2 h3 (hk d H' h4)

theorem wp_mono_next {a : Act} {w : World} {n1 n2 : Act → World → Prop} {Q1 Q2 : Exit → Act → World → Prop} (h : o.wp P a w n1 Q1) (hn : ∀ a w, n1 a w → n2 a w)
    (hq : ∀ e a w, Q1 e a w → Q2 e a w) : o.wp P a w n2 Q2 := by
  unfold Oper.wp Oper.upon at h ⊢
  split at h
  all_goals (try simp only)
  · exact hn _ _ h
  · exact hn _ _ h
  · exact hn _ _ h
  · refine h.mono fun e w' hR => ?_
    cases e with
    | returned v => exact hn _ _ hR
    | panicked ch => exact hq _ _ _ hR
    | outgrown => obtain ⟨a0, w0, hx⟩ := hR; exact ⟨a0, w0, hq _ _ _ hx⟩
  · exact h.mono fun v w' hR => hn _ _ hR
  · exact hq _ _ _ h
  · exact h.elim

theorem runO_drop {H' : Heap} (hs : H'.sub H) (h : RunO P W f N Q ops l k env H') : RunO P W f N Q ops l k env H :=
  fun is his G a w hI hE hN hd => h is his G a w (hI.weaken hs) hE hN hd

theorem wpOps_mono {Q1 Q2 : Exit → Act → World → Prop} (hq : ∀ e a w, Q1 e a w → Q2 e a w) : ∀ (is : List Nat) (a : Act) (w : World), wpOps P ops Q1 is a w → wpOps P ops Q2 is a w
  | [], a, w, h => hq _ _ _ h
  | i :: is, a, w, h => by
    simp only [wpOps] at h ⊢
    cases ho : ops[i]? with
    | none => simp only [ho] at h ⊢; exact wpOps_mono hq is _ _ h
    | some o =>
      simp only [ho] at h ⊢
      split at h
      · rename_i hw
        rw [if_pos hw]
        rcases h with h | ⟨ha, a0, w0, hx⟩
        · exact .inl (wp_mono_next h (fun a w hh => wpOps_mono hq is a w hh) hq)
        · exact .inr ⟨ha, a0, w0, hq _ _ _ hx⟩
      · rename_i hw
        rw [if_neg hw]
        exact wpOps_mono hq is _ _ h

theorem runO_nil (h : RunA P W f N Q k env H) : RunO P W f N Q ops [] k env H := by
  intro is his G a w hI hE hN hd
  have : is = [] := by simpa using his
  subst this
  exact ⟨rfl, G, env, H, .refl G, hI, hE, hN, hd, h⟩

theorem run_region {id : Nat} (h : RunO P W f N Q ops ops.toList k env H) : RunA P W f N Q (.code (.region id ops false) :: k) env H := by
  intro G a w b cs hI hE hN hd hfn hk
  have hw := h (List.range ops.size) (by
    apply List.ext_getElem?
    intro i
    simp only [List.getElem?_map, List.getElem?_range, Array.getElem?_toList]
    by_cases hi : i < ops.size
    · rw [List.getElem?_range hi]; simp [hi]
    · rw [List.getElem?_eq_none (by simpa using hi), Array.getElem?_eq_none (by omega)]; rfl) G a w hI hE hN hd
  obtain ⟨e, a', w', ⟨rfl, G1, env1, H1, hG1, hI1, hE1, hN1, hd1, hrun⟩, harr⟩ := wp_ops _ a w hw b k cs
  obtain ⟨G', w2, d, H', v, fr, hS, hG, rest⟩ := hrun G1 a' w' b cs hI1 hE1 hN1 hd1 hfn hk
  exact ⟨G', w2, d, H', v, fr, .head step_region (Steps.trans harr hS), hG1.trans hG, rest⟩

/-- One operation without a guard. -/
theorem runO_op (hg : o.guard = none) (h : OpOk P W o (ev env) H fun d H' => RunO P W f N Q ops l k (put N env o.dst d) H') : RunO P W f N Q ops (o :: l) k env H := by
  intro is his G a w hI hE hN hd
  match is, his with
  | i :: is, his =>
    simp only [List.map_cons, List.cons.injEq] at his
    simp only [wpOps, his.1]
    rw [if_pos (by simp [Region.wanted, hg])]
    refine .inl (h G a w _ _ hI (fun x _ => hE.ev x) fun v d H' G' w' hG hI' hR hrun => ?_)
    refine wpOps_mono (fun e a w hh => hh.le hG) is _ _ (hrun is his.2 G' _ w' hI' ?_ (by rw [Act.size_put]; exact hN) (by rw [Act.defers_put]; exact hd))
    rw [← hN]
    exact (hE.mono hG).put hR _

theorem opOk_val {ρ : Operand → D} {K : D → Heap → Prop} {p : Prop} {r : D} (hv : valA P ρ H o.op = some (p, r)) (hp : p) (hK : K r H) : OpOk P W o ρ H K := by
  intro G a w next Qx hI hρ hn
  obtain ⟨v, hrun, hr⟩ := valA_ok (o := o) (ρv := a.eval) hv hp hI hρ
  unfold Oper.wp
  rw [hrun]
  exact hn v r H G w (.refl G) hI hr hK

/-! ### guards -/

/-- A test's answer, as it is wanted. -/
def cdB (g t : Bool) : Bool := match g with
  | true => t
  | false => !t
theorem cdB_t (t : Bool) : cdB true t = t := rfl
theorem cdB_f (t : Bool) : cdB false t = !t := rfl

/-- What must hold where an operation's guard lets it by: of a test reckoned under guards of its own, those too. -/
def condsD (g : Bool) : D → Option (List Bool)
  | .v (.bool t) => some [cdB g t]
  | .gd c d => match condsD g d with
    | some l => some (c :: l)
    | none => none
  | _ => none

def guardA (ops : Array Oper) (env : Env) (j : Nat) (g : Bool) : Option (List Bool) :=
  match ops[j]? with
  | some o => match o.dst with
    | some t => condsD g (env t)
    | none => none
  | none => none

def allT : List Bool → Prop
  | [] => True
  | c :: cs => c = true ∧ allT cs

def wrapL : List Bool → D → D
  | [], d => d
  | c :: cs, d => .gd c (wrapL cs d)

/-- A value as it is known where `c` holds. -/
def strip1 (c : Bool) : D → D
  | .gd c' d => if (c == c') = true then d else .gd c' d
  | d => d
def stripL : List Bool → D → D
  | [], d => d
  | c :: cs, d => stripL cs (strip1 c d)

theorem Rep.strip1 {G : IG} {x : Value} {d : D} (h : Rep G x d) {c : Bool} (hc : c = true) : Rep G x (strip1 c d) := by
  unfold Sn.strip1
  split
  · rename_i c' d'
    split
    · rename_i e
      simp at e
      exact h.inv_gd (e ▸ hc)
    · exact h
  · exact h
theorem Rep.stripL {G : IG} {x : Value} : ∀ {cs : List Bool} {d : D}, Rep G x d → allT cs → Rep G x (stripL cs d)
  | [], d, h, _ => h
  | c :: cs, d, h, ha => Rep.stripL (cs := cs) (Rep.strip1 h ha.1) ha.2
theorem Rep.wrapT {G : IG} {x : Value} {d : D} (h : Rep G x d) : ∀ (cs : List Bool), allT cs → Rep G x (wrapL cs d)
  | [], _ => h
  | c :: cs, ha => by
    obtain ⟨rfl, ha⟩ := ha
    exact .gdT x _ (Rep.wrapT h cs ha)
theorem Rep.wrapF {G : IG} {d : D} : ∀ (cs : List Bool), ¬ allT cs → Rep G undef (wrapL cs d)
  | [], h => absurd trivial h
  | c :: cs, h => by
    cases c
    · exact .gdF _
    · exact .gdT undef _ (Rep.wrapF cs (fun hh => h ⟨rfl, hh⟩))

theorem condsD_ok {G : IG} {g : Bool} {x : Value} : ∀ (d : D) (cs : List Bool), condsD g d = some cs → Rep G x d → allT cs → x = .bool g
  | .v y, cs, h, hx, ha => by
    unfold condsD at h
    split at h
    · rename_i t e
      cases e
      cases h
      cases hx.inv_v
      have := ha.1
      cases g <;> simp [cdB] at this <;> simp [this]
    · rename_i e; cases e
    · cases h
  | .gd c d, cs, h, hx, ha => by
    simp only [condsD] at h
    split at h
    · rename_i l hl
      cases h
      exact condsD_ok d l hl (hx.inv_gd ha.1) ha.2
    · cases h
  | .nil, cs, h, _, _ => by simp [condsD] at h
  | .list _, cs, h, _, _ => by simp [condsD] at h
  | .own _ _ _, cs, h, _, _ => by simp [condsD] at h
  | .ip _, cs, h, _, _ => by simp [condsD] at h
  | .agg _, cs, h, _, _ => by simp [condsD] at h
  | .tup _, cs, h, _, _ => by simp [condsD] at h

theorem condsD_no {G : IG} {g : Bool} {x : Value} : ∀ (d : D) (cs : List Bool), condsD g d = some cs → Rep G x d → ¬ allT cs → x ≠ .bool g
  | .v y, cs, h, hx, ha => by
    unfold condsD at h
    split at h
    · rename_i t e
      cases e
      cases h
      cases hx.inv_v
      cases g <;> cases t <;> simp [cdB, allT] at ha ⊢
    · rename_i e; cases e
    · cases h
  | .gd c d, cs, h, hx, ha => by
    simp only [condsD] at h
    split at h
    · rename_i l hl
      cases h
      cases hx with
      | gdF => simp [undef]
      | gdT _ _ hr => exact condsD_no d l hl hr (fun hh => ha ⟨rfl, hh⟩)
    · cases h
  | .nil, cs, h, _, _ => by simp [condsD] at h
  | .list _, cs, h, _, _ => by simp [condsD] at h
  | .own _ _ _, cs, h, _, _ => by simp [condsD] at h
  | .ip _, cs, h, _, _ => by simp [condsD] at h
  | .agg _, cs, h, _, _ => by simp [condsD] at h
  | .tup _, cs, h, _, _ => by simp [condsD] at h

theorem guardA_F {G : IG} {a : Act} {j : Nat} {g : Bool} {cs : List Bool} (hE : RepEnv G a env) (h : guardA ops env j g = some cs) (ha : ¬ allT cs) : yielded ops a.tmps j ≠ some g := by
  unfold guardA at h
  split at h
  · rename_i o ho
    split at h
    · rename_i t ht
      have hv := condsD_no _ _ h (hE t) ha
      intro hy
      simp only [yielded, ho, ht, Option.bind_some] at hy
      split at hy
      · rename_i b hb
        cases hy
        apply hv
        simp [Array.getD_eq_getD_getElem?, hb]
      · cases hy
    · cases h
  · cases h

theorem guardA_T {G : IG} {a : Act} {j : Nat} {g : Bool} {cs : List Bool} (hE : RepEnv G a env) (h : guardA ops env j g = some cs) (ha : allT cs) : yielded ops a.tmps j = some g := by
  unfold guardA at h
  split at h
  · rename_i o ho
    split at h
    · rename_i t ht
      have hv := condsD_ok _ _ h (hE t) ha
      have hlt : t < a.tmps.size := by
        rcases Nat.lt_or_ge t a.tmps.size with h' | h'
        · exact h'
        · simp [Array.getD_eq_getD_getElem?, Array.getElem?_eq_none h', undef] at hv
      have hg : a.tmps[t]? = some (.bool g) := by
        simp [Array.getD_eq_getD_getElem?, hlt] at hv
        simp [hlt, hv]
      simp [yielded, ho, ht, hg]
    · cases h
  · cases h

/-- One step of a region that leaves the heap alone: under which condition, and to which slots. -/
def stepV (P : Program) (N : Nat) (ops : Array Oper) (env : Env) (H : Heap) (o : Oper) : Option (Prop × Env) :=
  match o.guard with
  | none => match valA P (ev env) H o.op with
    | some (p, d) => some (p, put N env o.dst d)
    | none => none
  | some (j, g) => match guardA ops env j g with
    | some cs => match valA P (fun x => stripL cs (ev env x)) H o.op with
      | some (p, d) => some (allT cs → p, put N env o.dst (wrapL cs d))
      | none => none
    | none => none

theorem wpOps_skip {i : Nat} {is : List Nat} {a : Act} {w : World} {Qx : Exit → Act → World → Prop} (ho : ops[i]? = some o) (hw : ¬ Region.wanted o (yielded ops a.tmps) = true)
    (h : wpOps P ops Qx is (a.put o.dst undef) w) : wpOps P ops Qx (i :: is) a w := by
  simp only [wpOps, ho]
  rw [if_neg hw]
  exact h

/-- An operation under a guard: where it is let by it does as `h` says and leaves the heap alone. -/
theorem runO_guarded {j : Nat} {g : Bool} (hg : o.guard = some (j, g)) {cs : List Bool} (ht : guardA ops env j g = some cs) {d : D}
    (h : allT cs → OpOk P W o (fun x => stripL cs (ev env x)) H fun d' H' => d' = d ∧ H' = H) (hr : RunO P W f N Q ops l k (put N env o.dst (wrapL cs d)) H) :
    RunO P W f N Q ops (o :: l) k env H := by
  intro is his G a w hI hE hN hd
  match is, his with
  | i :: is, his =>
    simp only [List.map_cons, List.cons.injEq] at his
    by_cases hw : Region.wanted o (yielded ops a.tmps) = true
    · simp only [wpOps, his.1]
      rw [if_pos hw]
      by_cases hc : allT cs
      · refine .inl (h hc G a w _ _ hI (fun x _ => (hE.ev x).stripL hc) fun v d' H' G' w' hG hI' hR hK => ?_)
        obtain ⟨rfl, rfl⟩ := hK
        refine wpOps_mono (fun e a w hh => hh.le hG) is _ _ (hr is his.2 G' _ w' hI' ?_ (by rw [Act.size_put]; exact hN) (by rw [Act.defers_put]; exact hd))
        rw [← hN]
        exact (hE.mono hG).put (hR.wrapT cs hc) _
      · exact absurd hw (by simp [Region.wanted, hg, guardA_F hE ht hc])
    · refine wpOps_skip his.1 hw (hr is his.2 G _ w hI ?_ (by rw [Act.size_put]; exact hN) (by rw [Act.defers_put]; exact hd))
      rw [← hN]
      exact hE.put (Rep.wrapF cs fun hc => hw (by simp [Region.wanted, hg, guardA_T hE ht hc])) _

theorem runO_stepV {p : Prop} {env' : Env} (h : stepV P N ops env H o = some (p, env')) (hp : p) (hr : RunO P W f N Q ops l k env' H) : RunO P W f N Q ops (o :: l) k env H := by
  unfold stepV at h
  split at h
  · rename_i hg
    split at h
    · rename_i p' d hv
      simp at h
      obtain ⟨hp', rfl⟩ := h
      exact runO_op hg (opOk_val hv (by rw [hp']; exact hp) hr)
    · cases h
  · rename_i j g hg
    split at h
    · rename_i cs ht
      split at h
      · rename_i p' d hv
        simp at h
        obtain ⟨hp', rfl⟩ := h
        rw [← hp'] at hp
        exact runO_guarded hg ht (fun hc => opOk_val hv (hp hc) ⟨rfl, rfl⟩) hr
      · cases h
    · cases h

/-- As far as the heap is left alone. -/
def Go (P : Program) (W : World) (f : FuncId) (N : Nat) (Q : D → Heap → Prop) (ops : Array Oper) (k : List Item) (H : Heap) : List Oper → Env → Prop
  | [], env => RunA P W f N Q k env H
  | o :: l, env => match stepV P N ops env H o with
    | some (p, env') => p ∧ Go P W f N Q ops k H l env'
    | none => RunO P W f N Q ops (o :: l) k env H

theorem runO_go : ∀ (l : List Oper) (env : Env), Go P W f N Q ops k H l env → RunO P W f N Q ops l k env H
  | [], env, h => runO_nil h
  | o :: l, env, h => by
    unfold Go at h
    split at h
    · rename_i p env' hs
      exact runO_stepV hs h.1 (runO_go l env' h.2)
    · exact h

theorem run_go {id : Nat} {l : List Oper} (h : Go P W f N Q l.toArray k H l env) : RunA P W f N Q (.code (.region id l.toArray false) :: k) env H :=
  run_region (by simpa using runO_go l env h)

/-! ### operations that make, write, call -/

theorem opOk_alloc {ρ : Operand → D} {K : D → Heap → Prop} {t : TypeId} {z : List D} (ho : o.op = .alloc t) (hz : zeroT P t = some z)
    (hK : ∀ b, H b = none → K (.v (.pointer (some ⟨b, 0, none⟩))) (H.set b (.cells z t))) : OpOk P W o ρ H K := by
  intro G a w next Qx hI hρ hn
  obtain ⟨x, hx, hr, h1⟩ := zeroT_run (w := w) (G := G) hz
  have hrun : (execOp a.eval o).run P w = .ok (.value (.pointer (some ⟨w.heap.size, 0, none⟩))) (w.alloc (.cells x.cells t)) := by
    simp [execOp, ho, Instr.alloc, hx, newVar, newRow]
  unfold Oper.wp
  rw [hrun]
  exact hn _ _ _ G _ (.refl G) (hI.allocCells x.cells.toList z t hr h1) (.v _) (hK _ (hI.fresh (Nat.le_refl _)))

theorem opOk_box {ρ : Operand → D} {K : D → Heap → Prop} {t : TypeId} {x : Operand} (ho : o.op = .box t x) (hs : (ρ x).stor = true)
    (hK : ∀ b, H b = none → K (.v (.pointer (some ⟨b, 0, none⟩))) (H.set b (.cells (ρ x).cells t))) : OpOk P W o ρ H K := by
  intro G a w next Qx hI hρ hn
  obtain ⟨hr, h1⟩ := (hρ x (by simp [ho, Op.operands])).stor hs
  have hrun : (execOp a.eval o).run P w = .ok (.value (.pointer (some ⟨w.heap.size, 0, none⟩))) (w.alloc (.cells (a.eval x).cells t)) := by
    simp [execOp, ho, Instr.box, newVar, newRow]
  unfold Oper.wp
  rw [hrun]
  exact hn _ _ _ G _ (.refl G) (hI.allocCells (a.eval x).cells.toList (ρ x).cells t hr h1) (.v _) (hK _ (hI.fresh (Nat.le_refl _)))

theorem opOk_store {ρ : Operand → D} {K : D → Heap → Prop} {t n : Nat} {p x : Operand} {b off : Nat} {ds : List D} {e : TypeId} (ho : o.op = .store t p x) (hsz : szT P t = some n)
    (hp : ρ p = .v (.pointer (some ⟨b, off, none⟩))) (hb : H b = some (.cells ds e)) (hs : (ρ x).stor = true) (hlen : (ρ x).cells.length = n) (hle : off + n ≤ ds.length)
    (hK : K (.v undef) (H.set b (.cells (ds.take off ++ (ρ x).cells ++ ds.drop (off + n)) e))) : OpOk P W o ρ H K := by
  intro G a w next Qx hI hρ hn
  obtain ⟨hr, h1⟩ := (hρ x (by simp [ho, Op.operands])).stor hs
  obtain ⟨hWb, cs, hcs, hrc, hc1, hG⟩ := hI.res b _ hb
  have hpv : a.eval p = .pointer (some ⟨b, off, none⟩) := by have := hρ p (by simp [ho, Op.operands]); rw [hp] at this; exact this.inv_v
  have hl1 : (a.eval x).cells.toList.length = n := by rw [hr.1]; exact hlen
  have hcl : cs.length = ds.length := hrc.1
  have hst := run_storeCells_at P b off e (a.eval x).cells.toList 0 cs.toArray w hcs (by simp at hl1 ⊢; omega) h1
  simp only [Nat.add_zero] at hst
  have hrun : (execOp a.eval o).run P w = .ok .skip (w.setRow b (cs.take off ++ (a.eval x).cells.toList ++ cs.drop (off + n)).toArray) := by
    simp only [execOp, ho, Instr.storeAt, hpv, Instr.sureAddr, storeVar, Sem.run_bind, Sem.run_pure, Result.andThen_ok, run_szT hsz]
    rw [if_neg (by simp at hl1; simp [hl1])]
    simp only [hst, Result.andThen_ok, Sem.run_pure, Sem.run_bind]
    rw [hl1]
  unfold Oper.wp
  rw [hrun]
  refine hn undef (.v undef) _ G _ (.refl G) (hI.setRow hb _ (((hrc.take off).append hr).append (hrc.drop (off + n))) ?_) (.v _) hK
  intro c hc
  simp only [List.mem_append] at hc
  rcases hc with (hc | hc) | hc
  · exact hc1 c (List.mem_of_mem_take hc)
  · exact h1 c hc
  · exact hc1 c (List.mem_of_mem_drop hc)

/-- A call of a function of the text's. -/
theorem opOk_call {ρ : Operand → D} {K : D → Heap → Prop} {c : Call} {g : Operand} {h : FuncId} {first captured : Array Value} (ho : o.op = .call c) (hc : c.callee = .value g)
    (hg : ρ g = .v (.func (.func h) first captured)) {fn : Func} (hf : P.funcs[h]? = some fn) (hb : fn.body.isSome = true) (hnm : (fn.name == "runtime.NumGoroutine") = false)
    (hK : CallA P W h (first.toList.map .v ++ c.args.toList.map (fun x => (ρ x).flat) ++ captured.toList.map .v) H K) : OpOk P W o ρ H K := by
  intro G a w next Qx hI hρ hn
  have hgv : a.eval g = .func (.func h) first captured := by have := hρ g (by simp [ho, Op.operands, Call.operands, hc]); rw [hg] at this; exact this.inv_v
  have hbn : fn.body ≠ none := by intro e; simp [e] at hb
  have hnm' : fn.name ≠ "runtime.NumGoroutine" := by simpa using hnm
  have hrun : (execOp a.eval o).run P w = .ok (.enter h (first ++ c.args.map a.eval ++ captured)) w := by
    obtain ⟨callee, args, ats⟩ := c
    simp only at hc
    subst hc
    simp [execOp, ho, resolve, hgv, Deferred.ofValue, invoke, callFunc, hf, hbn, hnm']
  unfold Oper.wp
  rw [hrun]
  show Calls P h _ w _
  have hargs : first ++ c.args.map a.eval ++ captured = (first.toList ++ c.args.toList.map a.eval ++ captured.toList).toArray := by
    simp [← List.map_toArray]
  rw [hargs]
  refine (hK G _ w hI (((Reps.self G first.toList).append ?_).append (Reps.self G captured.toList))).mono ?_
  · exact reps_map (ρ := fun x => (ρ x).flat) c.args.toList (fun x hx => (hρ x (by simp only [ho, Op.operands, Call.operands, Array.mem_append]; exact .inr (by simpa using hx))).flat)
  · rintro e w' ⟨G', v, d, H', rfl, hG, hI', hR, hQ⟩
    exact hn v d H' G' w' hG hI' hR hQ

/-- A function that there is, with a body: closed facts, one a function. -/
structure Known (P : Program) (h : FuncId) : Prop where
  known : ∃ fn, P.funcs[h]? = some fn ∧ fn.body.isSome = true ∧ (fn.name == "runtime.NumGoroutine") = false

theorem runO_call {c : Call} {h : FuncId} {first captured : Array Value} (hg : o.guard = none) (ho : o.op = .call c) {g : Operand} (hc : c.callee = .value g)
    (hv : ev env g = .v (.func (.func h) first captured)) (hk : Known P h)
    (hK : CallA P W h (first.toList.map .v ++ c.args.toList.map (fun x => (ev env x).flat) ++ captured.toList.map .v) H fun d H' => RunO P W f N Q ops l k (put N env o.dst d) H') :
    RunO P W f N Q ops (o :: l) k env H := by
  obtain ⟨fn, h1, h2, h3⟩ := hk.known
  exact runO_op hg (opOk_call ho hc hv h1 h2 h3 hK)

section lits
variable {dst : Option Tmp} {ty : TypeId} {pos : String} {aft : Array Edge}

theorem runO_box {t : TypeId} {x : Operand} (hs : (ev env x).stor = true)
    (h : ∀ b, H b = none → RunO P W f N Q ops l k (put N env dst (.v (.pointer (some ⟨b, 0, none⟩)))) (H.set b (.cells (ev env x).cells t))) :
    RunO P W f N Q ops (⟨dst, .box t x, ty, pos, aft, none⟩ :: l) k env H := runO_op rfl (opOk_box rfl hs h)

theorem runO_alloc {t : TypeId} {z : List D} (hz : zeroT P t = some z)
    (h : ∀ b, H b = none → RunO P W f N Q ops l k (put N env dst (.v (.pointer (some ⟨b, 0, none⟩)))) (H.set b (.cells z t))) :
    RunO P W f N Q ops (⟨dst, .alloc t, ty, pos, aft, none⟩ :: l) k env H := runO_op rfl (opOk_alloc rfl hz h)

theorem runO_store {t n : Nat} {p x : Operand} {b off : Nat} {ds : List D} {e : TypeId} (hsz : szT P t = some n)
    (hp : ev env p = .v (.pointer (some ⟨b, off, none⟩))) (hb : H b = some (.cells ds e)) (hs : (ev env x).stor = true) (hlen : (ev env x).cells.length = n) (hle : off + n ≤ ds.length)
    (h : RunO P W f N Q ops l k (put N env dst (.v undef)) (H.set b (.cells (ds.take off ++ (ev env x).cells ++ ds.drop (off + n)) e))) :
    RunO P W f N Q ops (⟨dst, .store t p x, ty, pos, aft, none⟩ :: l) k env H := runO_op rfl (opOk_store rfl hsz hp hb hs hlen hle h)

theorem runO_callF {h : FuncId} {args : Array Operand} {ats : Array TypeId} (hk : Known P h)
    (hK : CallA P W h (args.toList.map (fun x => (ev env x).flat)) H fun d H' => RunO P W f N Q ops l k (put N env dst d) H') :
    RunO P W f N Q ops (⟨dst, .call ⟨.value (.func h), args, ats⟩, ty, pos, aft, none⟩ :: l) k env H :=
  runO_call (first := #[]) (captured := #[]) rfl rfl rfl rfl hk (by simpa using hK)

theorem runO_callFG {h : FuncId} {args : Array Operand} {ats : Array TypeId} {j : Nat} {g : Bool} {cs : List Bool} (hk : Known P h) (ht : guardA ops env j g = some cs) {d : D}
    (hK : allT cs → CallA P W h (args.toList.map (fun x => (stripL cs (ev env x)).flat)) H fun d' H' => d' = d ∧ H' = H)
    (hr : RunO P W f N Q ops l k (put N env dst (wrapL cs d)) H) :
    RunO P W f N Q ops (⟨dst, .call ⟨.value (.func h), args, ats⟩, ty, pos, aft, some (j, g)⟩ :: l) k env H := by
  obtain ⟨fn, h1, h2, h3⟩ := hk.known
  refine runO_guarded rfl ht (fun hc => ?_) hr
  refine opOk_call (c := ⟨.value (.func h), args, ats⟩) (g := .func h) (first := #[]) (captured := #[]) rfl rfl ?_ h1 h2 h3 (by simpa using hK hc)
  have : ∀ l : List Bool, stripL l (ev env (.func h)) = .v (.func (.func h) #[] #[]) := by
    intro l
    induction l with
    | nil => rfl
    | cons c l ih => exact ih
  exact this cs
end lits

end
attribute [go_sem] Go.Sn.Go stepV valA ev ofV put_some put_none upd_at env0 guardA condsD cdB allT wrapL strip1 stripL pickA selA loadA fieldAddrA fieldA partA indexAddrA indexA sliceA boundA
  binA intA shiftA strA eqCells eqCell unA convA lenA maxA extractA nilCheckA litsA partsA buildA fillA Value.oneCell' Heap.set_at Heap.del_at resA tupA
section words
@[go_sem] theorem D.elems_list (xs : List (List D)) : (D.list xs).elems = some xs := rfl
@[go_sem] theorem D.elems_own (b c : Nat) (xs : List (List D)) : (D.own b c xs).elems = some xs := rfl
@[go_sem] theorem D.elems_nil : D.nil.elems = some [] := rfl
@[go_sem] theorem D.elems_v (x : Value) : (D.v x).elems = none := rfl
@[go_sem] theorem D.elems_agg (ds : List D) : (D.agg ds).elems = none := rfl
@[go_sem] theorem D.elems_ip (ds : List D) : (D.ip ds).elems = none := rfl
@[go_sem] theorem D.cells_agg (ds : List D) : (D.agg ds).cells = ds := rfl
@[go_sem] theorem D.cells_v (x : Value) : (D.v x).cells = [.v x] := rfl
@[go_sem] theorem D.cells_list (xs : List (List D)) : (D.list xs).cells = [.list xs] := rfl
@[go_sem] theorem D.cells_own (b c : Nat) (xs : List (List D)) : (D.own b c xs).cells = [.own b c xs] := rfl
@[go_sem] theorem D.cells_nil : D.nil.cells = [.nil] := rfl
@[go_sem] theorem D.cells_ip (ds : List D) : (D.ip ds).cells = [.ip ds] := rfl
@[go_sem] theorem D.one_v (x : Value) : (D.v x).one = x.oneCell' := rfl
@[go_sem] theorem D.one_list (xs : List (List D)) : (D.list xs).one = true := rfl
@[go_sem] theorem D.one_own (b c : Nat) (xs : List (List D)) : (D.own b c xs).one = true := rfl
@[go_sem] theorem D.one_nil : D.nil.one = true := rfl
@[go_sem] theorem D.one_ip (ds : List D) : (D.ip ds).one = true := rfl
@[go_sem] theorem D.stor_agg (ds : List D) : (D.agg ds).stor = ds.all D.one := rfl
@[go_sem] theorem D.stor_v (x : Value) : (D.v x).stor = x.oneCell' := rfl
@[go_sem] theorem D.stor_list (xs : List (List D)) : (D.list xs).stor = true := rfl
@[go_sem] theorem D.stor_own (b c : Nat) (xs : List (List D)) : (D.own b c xs).stor = true := rfl
@[go_sem] theorem D.stor_nil : D.nil.stor = true := rfl
@[go_sem] theorem D.stor_ip (ds : List D) : (D.ip ds).stor = true := rfl
end words
attribute [go_sem] D.flat0_list D.flat0_own D.flat0_nil D.flat0_v D.flat0_ip D.flat0_agg D.flat0_tup D.flat0_gd D.flat_list D.flat_own D.flat_nil D.flat_v D.flat_ip D.flat_agg D.flat_tup D.flat_gd
end Go.Sn
