/-
  A program logic over the kit's `Calls`. Part 9: regions that draw their order, where no operation touches the heap that is ours.
-/
import Derived.Test.YtoemhlgefpjieaaOps5
import Derived.Orders
namespace Go.Sn
open Go Go.RowKit
set_option linter.unusedVariables false
set_option linter.unusedSimpArgs false

/-- An operation that, with these slots, leaves `d` and the heap as it was. -/
def OkAt (P : Program) (W : World) (ops : Array Oper) (H : Heap) (o : Oper) (d : D) (env : Env) : Prop :=
  match o.guard with
  | none => OpOk P W o (ev env) H fun d' H' => d' = d ∧ H' = H
  | some (j, g) => ∃ cs d0, guardA ops env j g = some cs ∧ d = wrapL cs d0 ∧ (allT cs → OpOk P W o (fun x => stripL cs (ev env x)) H fun d' H' => d' = d0 ∧ H' = H)

/-- The operations of a region, one behind the other; each leaves the heap as it was. -/
def RunD (P : Program) (W : World) (f : FuncId) (N : Nat) (Q : D → Heap → Prop) (ops : Array Oper) (k : List Item) (H : Heap) : List Oper → Env → Prop
  | [], env => RunA P W f N Q k env H
  | o :: l, env => ∃ d, OkAt P W ops H o d env ∧ RunD P W f N Q ops k H l (put N env o.dst d)

def pairOk (ops : Array Oper) (i j : Nat) : Bool :=
  match ops[i]?, ops[j]? with
  | some oi, some oj => oi.apart ops oj || oj.after.any fun e => Region.binds .any e && e.on == i
  | _, _ => true
/-- Whatever is not ordered does not meet in the slots; what is waited for stands ahead. -/
def drawOk (ops : Array Oper) : Bool :=
  (List.range ops.size).all fun j => ((List.range j).all fun i => pairOk ops i j) && ((ops[j]?).map fun o => o.after.all fun e => !Region.binds .any e || decide (e.on < j)).getD true

section
variable {P : Program} {W : World} {f : FuncId} {N : Nat} {Q : D → Heap → Prop} {ops : Array Oper} {l : List Oper} {o : Oper} {k : List Item} {env : Env} {H : Heap}

theorem OpOk.congr {ρ ρ' : Operand → D} {K : D → Heap → Prop} (h : OpOk P W o ρ H K) (he : ∀ x ∈ o.op.operands, ρ x = ρ' x) : OpOk P W o ρ' H K :=
  fun G a w next Qx hI hρ hn => h G a w next Qx hI (fun x hx => by rw [he x hx]; exact hρ x hx) hn

theorem ev_congr {env env' : Env} {x : Operand} (hx : x ∈ o.op.operands) (he : ∀ t ∈ o.looksAt ops, env t = env' t) : ev env x = ev env' x := by
  cases x with
  | tmp t =>
    refine he t ?_
    unfold Oper.looksAt
    refine List.mem_append.2 (.inl (List.mem_filterMap.2 ⟨.tmp t, by simpa using hx, rfl⟩))
  | const v => rfl
  | global g => rfl
  | func f => rfl

theorem OkAt.congr {d : D} {env env' : Env} (h : OkAt P W ops H o d env) (he : ∀ t ∈ o.looksAt ops, env t = env' t) : OkAt P W ops H o d env' := by
  unfold OkAt at h ⊢
  cases hg : o.guard with
  | none =>
    simp only [hg] at h ⊢
    exact h.congr fun x hx => ev_congr hx he
  | some jg =>
    obtain ⟨j, g⟩ := jg
    simp only [hg] at h ⊢
    obtain ⟨cs, d0, h1, h2, h3⟩ := h
    refine ⟨cs, d0, ?_, h2, fun hc => (h3 hc).congr fun x hx => by rw [ev_congr (ops := ops) hx he]⟩
    rw [← h1]
    unfold guardA
    cases ho : ops[j]? with
    | none => rfl
    | some o' =>
      cases hd : o'.dst with
      | none => simp [hd]
      | some t =>
        simp only [hd]
        rw [he t]
        unfold Oper.looksAt
        exact List.mem_append.2 (.inr (by simp [hg, ho, hd]))

theorem put_at_ne {N : Nat} {env : Env} {dst : Option Tmp} {d : D} {t : Nat} (h : dst ≠ some t) : put N env dst d t = env t := by
  cases dst with
  | none => rfl
  | some k =>
    simp only [put_some]
    split
    · rw [upd_at, if_neg (fun e => h (by rw [e]))]
    · rfl

theorem put_comm {N : Nat} {env : Env} {x y : Option Tmp} {d e : D} (h : ∀ t, x = some t → y ≠ some t) : put N (put N env x d) y e = put N (put N env y e) x d := by
  funext t
  by_cases hx : x = some t
  · have hy := h t hx
    rw [put_at_ne hy]
    subst hx
    simp only [put_some]
    split
    · simp [upd_at]
    · rw [put_at_ne hy]
  · rw [put_at_ne (env := put N env y e) hx]
    by_cases hy : y = some t
    · subst hy
      simp only [put_some]
      split
      · simp [upd_at]
      · rw [put_at_ne hx]
    · rw [put_at_ne hy, put_at_ne hy, put_at_ne hx]

/-- The operations that are left, with what each gives. -/
def Vs (P : Program) (W : World) (f : FuncId) (N : Nat) (Q : D → Heap → Prop) (ops : Array Oper) (k : List Item) (H : Heap) : List (Nat × D) → Env → Prop
  | [], env => RunA P W f N Q k env H
  | (i, d) :: R, env => ∃ o, ops[i]? = some o ∧ OkAt P W ops H o d env ∧ Vs P W f N Q ops k H R (put N env o.dst d)

theorem vs_take {i : Nat} {d : D} {R2 : List (Nat × D)} {oi : Oper} (hoi : ops[i]? = some oi) : ∀ (R1 : List (Nat × D)) (env : Env), (∀ x ∈ R1, ∀ oj, ops[x.1]? = some oj → oj.apart ops oi = true) →
    Vs P W f N Q ops k H (R1 ++ (i, d) :: R2) env → OkAt P W ops H oi d env ∧ Vs P W f N Q ops k H (R1 ++ R2) (put N env oi.dst d)
  | [], env, _, h => by
    obtain ⟨o, ho, h1, h2⟩ := h
    rw [hoi] at ho
    cases ho
    exact ⟨h1, h2⟩
  | (j, dj) :: R1, env, ha, h => by
    obtain ⟨oj, hoj, h1, h2⟩ := h
    obtain ⟨h5, h6, h7⟩ := Oper.apart_spec (ha (j, dj) (by simp) oj hoj)
    obtain ⟨h3, h4⟩ := vs_take hoi R1 (put N env oj.dst dj) (fun x hx => ha x (by simp [hx])) h2
    refine ⟨h3.congr fun t ht => put_at_ne fun e => h5 t e ht, oj, hoj, h1.congr fun t ht => (put_at_ne fun e => h7 t e ht).symm, ?_⟩
    rw [← put_comm h6]
    exact h4

theorem vs_of_runD : ∀ (l : List Oper) (n : Nat) (env : Env), (∀ j o, l[j]? = some o → ops[n + j]? = some o) → RunD P W f N Q ops k H l env →
    ∃ ds : List D, ds.length = l.length ∧ Vs P W f N Q ops k H ((List.range' n l.length).zip ds) env
  | [], n, env, _, h => ⟨[], rfl, h⟩
  | o :: l, n, env, hl, h => by
    obtain ⟨d, h1, h2⟩ := h
    obtain ⟨ds, h3, h4⟩ := vs_of_runD l (n + 1) _ (fun j o' hj => by have := hl (j + 1) o' (by simpa using hj); rwa [show n + 1 + j = n + (j + 1) by omega]) h2
    refine ⟨d :: ds, by simp [h3], ?_⟩
    rw [List.length_cons, List.range'_succ]
    exact ⟨o, by simpa using hl 0 o rfl, h1, h4⟩

theorem wpOp_okAt {i : Nat} {o : Oper} {d : D} {G : IG} {a : Act} {w : World} {Qx : Exit → Act → World → Prop} {next : Act → World → Prop} (ho : ops[i]? = some o) (hI : Inv W G H w) (hE : RepEnv G a env)
    (hN : a.tmps.size = N) (h : OkAt P W ops H o d env) (hn : ∀ G' a' w', G.le G' → Inv W G' H w' → RepEnv G' a' (put N env o.dst d) → a'.tmps.size = N → a'.defers = a.defers → next a' w') :
    wpOp P ops Qx i next a w := by
  unfold wpOp
  simp only [ho]
  unfold OkAt at h
  split at h
  · rename_i hg
    rw [if_pos (by simp [Region.wanted, hg])]
    refine .inl (h G a w _ _ hI (fun x _ => hE.ev x) fun v d' H' G' w' hG hI' hR hK => ?_)
    obtain ⟨rfl, rfl⟩ := hK
    refine hn G' _ w' hG hI' ?_ (by rw [Act.size_put]; exact hN) (Act.defers_put _ _ _)
    rw [← hN]
    exact (hE.mono hG).put hR _
  · rename_i j g hg
    obtain ⟨cs, d0, ht, rfl, hc⟩ := h
    by_cases hall : allT cs
    · rw [if_pos (by simp [Region.wanted, hg, guardA_T hE ht hall])]
      refine .inl (hc hall G a w _ _ hI (fun x _ => (hE.ev x).stripL hall) fun v d' H' G' w' hG hI' hR hK => ?_)
      obtain ⟨rfl, rfl⟩ := hK
      refine hn G' _ w' hG hI' ?_ (by rw [Act.size_put]; exact hN) (Act.defers_put _ _ _)
      rw [← hN]
      exact (hE.mono hG).put (hR.wrapT cs hall) _
    · rw [if_neg (by simp [Region.wanted, hg, guardA_F hE ht hall])]
      refine hn G _ w (.refl G) hI ?_ (by rw [Act.size_put]; exact hN) (Act.defers_put _ _ _)
      rw [← hN]
      exact hE.put (Rep.wrapF cs hall) _

theorem drawOk_pair (h : drawOk ops = true) {i j : Nat} {oi oj : Oper} (hi : ops[i]? = some oi) (hj : ops[j]? = some oj) (hij : i < j) :
    oi.apart ops oj = true ∨ ∃ e ∈ oj.after, Region.binds .any e = true ∧ e.on = i := by
  have hjs : j < ops.size := (Array.getElem?_eq_some_iff.1 hj).1
  unfold drawOk at h
  rw [List.all_eq_true] at h
  have h1 := h j (by simpa using hjs)
  simp only [Bool.and_eq_true, List.all_eq_true] at h1
  have h2 := h1.1 i (by simpa using hij)
  unfold pairOk at h2
  simp only [hi, hj, Bool.or_eq_true] at h2
  rcases h2 with h2 | h2
  · exact .inl h2
  · right
    rw [Array.any_eq_true'] at h2
    obtain ⟨e, he, hb⟩ := h2
    simp only [Bool.and_eq_true, beq_iff_eq] at hb
    exact ⟨e, he, hb.1, hb.2⟩

theorem drawOk_lt (h : drawOk ops = true) {j : Nat} {oj : Oper} (hj : ops[j]? = some oj) {e : Edge} (he : e ∈ oj.after) (hb : Region.binds .any e = true) : e.on < j := by
  have hjs : j < ops.size := (Array.getElem?_eq_some_iff.1 hj).1
  unfold drawOk at h
  rw [List.all_eq_true] at h
  have h1 := h j (by simpa using hjs)
  simp only [Bool.and_eq_true, hj, Option.map_some, Option.getD_some] at h1
  have h2 := h1.2
  rw [Array.all_eq_true'] at h2
  have h3 := h2 e he
  simpa [hb] using h3

theorem wpAny_vs (hchk : drawOk ops = true) {G0 : IG} : ∀ (n : Nat) (R : List (Nat × D)) (listed : Array Bool), R.length = n → listed.size = ops.size →
    (R.map (·.1)).Pairwise (· < ·) → (∀ i, i < ops.size → (listed.getD i true = false ↔ i ∈ R.map (·.1))) →
    ∀ (env : Env) (G : IG) (a : Act) (w : World), Vs P W f N Q ops k H R env → G0.le G → Inv W G H w → RepEnv G a env → a.tmps.size = N → a.defers = [] →
      wpAny P .any ops (After P W f N Q k G0) n listed a w := by
  intro n
  induction n with
  | zero =>
    intro R listed hn hls hp hR env G a w hV hG hI hE hN hd
    have : R = [] := List.eq_nil_of_length_eq_zero hn
    subst this
    refine ⟨?_, rfl, G, env, H, hG, hI, hE, hN, hd, hV⟩
    apply List.eq_nil_iff_forall_not_mem.2
    intro i hi
    rw [mem_ready] at hi
    obtain ⟨h0, o, ho, _⟩ := hi
    have := (hR i (Array.getElem?_eq_some_iff.1 ho).1).1 h0
    simp at this
  | succ n ih =>
    intro R listed hn hls hp hR env G a w hV hG hI hE hN hd
    refine ⟨fun hr => ?_, fun i hi => ?_⟩
    · -- the first that is left is ready
      exfalso
      match R, hn, hV, hp, hR with
      | (i, d) :: R', hn, hV, hp, hR =>
        obtain ⟨o, ho, _⟩ := hV
        have his : i < ops.size := (Array.getElem?_eq_some_iff.1 ho).1
        have : i ∈ Region.ready .any ops listed := by
          rw [mem_ready]
          refine ⟨(hR i his).2 (by simp), o, ho, fun e he hb => ?_⟩
          have hlt := drawOk_lt hchk ho he hb
          cases hl : listed.getD e.on false with
          | true => rfl
          | false =>
            exfalso
            have hels : e.on < listed.size := by omega
            have hl' : listed.getD e.on true = false := by
              simp only [Array.getD_eq_getD_getElem?, Array.getElem?_eq_getElem hels, Option.getD_some] at hl ⊢
              exact hl
            have hm := (hR e.on (by omega)).1 hl'
            simp only [List.map_cons, List.mem_cons] at hm
            simp only [List.map_cons, List.pairwise_cons] at hp
            rcases hm with hm | hm
            · omega
            · have := hp.1 _ hm; omega
        rw [hr] at this
        cases this
    · rw [mem_ready] at hi
      obtain ⟨h0, oi, hoi, hall⟩ := hi
      have his : i < ops.size := (Array.getElem?_eq_some_iff.1 hoi).1
      have hm := (hR i his).1 h0
      obtain ⟨⟨i', d⟩, hmem, rfl⟩ := List.mem_map.1 hm
      obtain ⟨R1, R2, rfl⟩ := List.append_of_mem hmem
      simp only at hoi his h0 hall ⊢
      rw [List.map_append, List.map_cons] at hp
      have hpp := List.pairwise_append.1 hp
      have hap : ∀ x ∈ R1, ∀ oj, ops[x.1]? = some oj → oj.apart ops oi = true := by
        intro x hx oj hoj
        have hlt : x.1 < i' := hpp.2.2 x.1 (List.mem_map_of_mem hx) i' (by simp)
        rcases drawOk_pair hchk hoj hoi hlt with h | ⟨e, he, hb, hon⟩
        · exact h
        · exfalso
          have h1 := hall e he hb
          rw [hon] at h1
          have hxs : x.1 < ops.size := (Array.getElem?_eq_some_iff.1 hoj).1
          have h2 := (hR x.1 hxs).2 (by simp only [List.map_append, List.mem_append]; exact .inl (List.mem_map_of_mem hx))
          have hxl : x.1 < listed.size := by omega
          simp only [Array.getD_eq_getD_getElem?, Array.getElem?_eq_getElem hxl, Option.getD_some] at h1 h2
          rw [h1] at h2
          cases h2
      obtain ⟨hok, hV'⟩ := vs_take hoi R1 env hap hV
      refine wpOp_okAt hoi hI hE hN hok fun G' a' w' hG' hI' hE' hN' hd' => ?_
      refine ih (R1 ++ R2) (listed.setIfInBounds i' true) (by simp at hn ⊢; omega) (by simpa using hls) ?_ (fun j hj => ?_) _ G' a' w' hV' (hG.trans hG') hI' hE' hN' (hd'.trans hd)
      · rw [List.map_append]
        refine List.pairwise_append.2 ⟨hpp.1, (List.pairwise_cons.1 hpp.2.1).2, fun x hx y hy => hpp.2.2 x hx y (List.mem_cons_of_mem _ hy)⟩
      · have hnodup : i' ∉ (R1 ++ R2).map (·.1) := by
          rw [List.map_append, List.mem_append]
          rintro (h | h)
          · have := hpp.2.2 i' h i' (by simp); omega
          · have := (List.pairwise_cons.1 hpp.2.1).1 i' h; omega
        by_cases hij : i' = j
        · subst hij
          have : (listed.setIfInBounds i' true).getD i' true = true := by simp [Array.getD_eq_getD_getElem?, show i' < listed.size by omega]
          rw [this]
          exact ⟨fun h => absurd h (by simp), fun h => absurd h hnodup⟩
        · rw [getD_set_ne true hij, hR j hj]
          simp only [List.map_append, List.map_cons, List.mem_append, List.mem_cons]
          constructor
          · rintro (h | h | h)
            · exact .inl h
            · exact absurd h.symm hij
            · exact .inr h
          · rintro (h | h)
            · exact .inl h
            · exact .inr (.inr h)

/-- A region that draws its order. -/
theorem run_draw {id : Nat} (hm : P.follows .mixedOrders = true) (hchk : drawOk ops = true) (h : RunD P W f N Q ops k H ops.toList env) :
    RunA P W f N Q (.code (.region id ops true) :: k) env H := by
  intro G a w b cs hI hE hN hd hfn hk
  obtain ⟨ds, hlen, hV⟩ := vs_of_runD ops.toList 0 env (fun j o hj => by simpa using hj) h
  have hany := wpAny_vs hchk (G0 := G) (k := k) (f := f) (Q := Q) ops.size ((List.range' 0 ops.toList.length).zip ds) (Array.replicate ops.size false) (by simp at hlen ⊢; omega) (by simp)
    (by rw [List.map_fst_zip (by simp at hlen ⊢; omega)]; exact List.pairwise_lt_range') (fun i hi => by
      rw [List.map_fst_zip (by simp at hlen ⊢; omega)]
      simp [hi]) env G a w.drew hV (.refl G) hI.drew hE hN hd
  have hw := wp_region_any (id := id) hm hany
  obtain ⟨e, a', w', ⟨rfl, G1, env1, H1, hG1, hI1, hE1, hN1, hd1, hrun⟩, harr⟩ := hw b k cs
  obtain ⟨G', w2, d, H', v, fr, hS, hG, rest⟩ := hrun G1 a' w' b cs hI1 hE1 hN1 hd1 hfn hk
  exact ⟨G', w2, d, H', v, fr, Steps.trans harr hS, hG1.trans hG, rest⟩

theorem runD_op {d : D} (hg : o.guard = none) (h : OpOk P W o (ev env) H fun d' H' => d' = d ∧ H' = H) (hr : RunD P W f N Q ops k H l (put N env o.dst d)) : RunD P W f N Q ops k H (o :: l) env :=
  ⟨d, by unfold OkAt; rw [hg]; exact h, hr⟩

theorem runD_guarded {j : Nat} {g : Bool} (hg : o.guard = some (j, g)) {cs : List Bool} (ht : guardA ops env j g = some cs) {d : D}
    (h : allT cs → OpOk P W o (fun x => stripL cs (ev env x)) H fun d' H' => d' = d ∧ H' = H) (hr : RunD P W f N Q ops k H l (put N env o.dst (wrapL cs d))) :
    RunD P W f N Q ops k H (o :: l) env :=
  ⟨wrapL cs d, by unfold OkAt; rw [hg]; exact ⟨cs, d, ht, rfl, h⟩, hr⟩

theorem runD_stepV {p : Prop} {env' : Env} (h : stepV P N ops env H o = some (p, env')) (hp : p) (hr : RunD P W f N Q ops k H l env') : RunD P W f N Q ops k H (o :: l) env := by
  unfold stepV at h
  split at h
  · rename_i hg
    split at h
    · rename_i p' d hv
      simp at h
      obtain ⟨hp', rfl⟩ := h
      exact runD_op hg (opOk_val hv (by rw [hp']; exact hp) ⟨rfl, rfl⟩) hr
    · cases h
  · rename_i j g hg
    split at h
    · rename_i cs ht
      split at h
      · rename_i p' d hv
        simp at h
        obtain ⟨hp', rfl⟩ := h
        rw [← hp'] at hp
        exact runD_guarded hg ht (fun hc => opOk_val hv (hp hc) ⟨rfl, rfl⟩) hr
      · cases h
    · cases h

/-- As far as no call is met. -/
def GoD (P : Program) (W : World) (f : FuncId) (N : Nat) (Q : D → Heap → Prop) (ops : Array Oper) (k : List Item) (H : Heap) : List Oper → Env → Prop
  | [], env => RunA P W f N Q k env H
  | o :: l, env => match stepV P N ops env H o with
    | some (p, env') => p ∧ GoD P W f N Q ops k H l env'
    | none => RunD P W f N Q ops k H (o :: l) env

theorem runD_go : ∀ (l : List Oper) (env : Env), GoD P W f N Q ops k H l env → RunD P W f N Q ops k H l env
  | [], env, h => h
  | o :: l, env, h => by
    unfold GoD at h
    split at h
    · rename_i p env' hs
      exact runD_stepV hs h.1 (runD_go l env' h.2)
    · exact h

theorem run_drawGo {id : Nat} {l : List Oper} (hm : P.follows .mixedOrders = true) (hchk : drawOk l.toArray = true) (h : GoD P W f N Q l.toArray k H l env) :
    RunA P W f N Q (.code (.region id l.toArray true) :: k) env H :=
  run_draw hm hchk (by simpa using runD_go l env h)

section lits
variable {dst : Option Tmp} {ty : TypeId} {pos : String} {aft : Array Edge}

theorem runD_callF {h : FuncId} {args : Array Operand} {ats : Array TypeId} (hk : Known P h) {d : D}
    (hK : CallA P W h (args.toList.map (fun x => (ev env x).flat)) H fun d' H' => d' = d ∧ H' = H) (hr : RunD P W f N Q ops k H l (put N env dst d)) :
    RunD P W f N Q ops k H (⟨dst, .call ⟨.value (.func h), args, ats⟩, ty, pos, aft, none⟩ :: l) env := by
  obtain ⟨fn, h1, h2, h3⟩ := hk.known
  exact runD_op rfl (opOk_call (c := ⟨.value (.func h), args, ats⟩) (g := .func h) (first := #[]) (captured := #[]) rfl rfl rfl h1 h2 h3 (by simpa using hK)) hr

theorem runD_callFG {h : FuncId} {args : Array Operand} {ats : Array TypeId} {j : Nat} {g : Bool} {cs : List Bool} (hk : Known P h) (ht : guardA ops env j g = some cs) {d : D}
    (hK : allT cs → CallA P W h (args.toList.map (fun x => (stripL cs (ev env x)).flat)) H fun d' H' => d' = d ∧ H' = H)
    (hr : RunD P W f N Q ops k H l (put N env dst (wrapL cs d))) :
    RunD P W f N Q ops k H (⟨dst, .call ⟨.value (.func h), args, ats⟩, ty, pos, aft, some (j, g)⟩ :: l) env := by
  obtain ⟨fn, h1, h2, h3⟩ := hk.known
  refine runD_guarded rfl ht (fun hc => ?_) hr
  refine opOk_call (c := ⟨.value (.func h), args, ats⟩) (g := .func h) (first := #[]) (captured := #[]) rfl rfl ?_ h1 h2 h3 (by simpa using hK hc)
  have : ∀ l : List Bool, stripL l (ev env (.func h)) = .v (.func (.func h) #[] #[]) := by
    intro l
    induction l with
    | nil => rfl
    | cons c l ih => exact ih
  exact this cs

theorem runD_buildSlice {t e n sz : Nat} {parts : Array (Nat × Operand)} {z : List D} (hu : P.underlying t = some (.slice e))
    (hsz : szT P e = some sz) (hz : zeroT P e = some z) (hzl : z.length = sz) (hn : parts.toList.length = n) (hfull : fullParts (partsA (ev env) parts.toList) 0 = true)
    (hs : (partsA (ev env) parts.toList).all (fun x => x.2.cells.length == sz && x.2.stor) = true) (hle : n * sz ≤ 16777216)
    (h : RunD P W f N Q ops k H l (put N env dst (if n = 0 then .nil else .list ((partsA (ev env) parts.toList).map fun x => x.2.cells.map D.flat)))) :
    RunD P W f N Q ops k H (⟨dst, .buildSlice t n parts, ty, pos, aft, none⟩ :: l) env :=
  runD_op rfl (opOk_buildSlice rfl hu hsz hz hzl hn hfull (by simpa using hs) hle ⟨rfl, rfl⟩) h
theorem runD_buildSliceG {t e n sz : Nat} {parts : Array (Nat × Operand)} {z : List D} {j : Nat} {g : Bool} {cs : List Bool} (ht : guardA ops env j g = some cs) (hu : P.underlying t = some (.slice e))
    (hsz : szT P e = some sz) (hz : zeroT P e = some z) (hzl : z.length = sz) (hn : parts.toList.length = n) (hfull : fullParts (partsA (fun x => stripL cs (ev env x)) parts.toList) 0 = true)
    (hs : (partsA (fun x => stripL cs (ev env x)) parts.toList).all (fun x => x.2.cells.length == sz && x.2.stor) = true) (hle : n * sz ≤ 16777216)
    (h : RunD P W f N Q ops k H l (put N env dst (wrapL cs (if n = 0 then .nil else .list ((partsA (fun x => stripL cs (ev env x)) parts.toList).map fun x => x.2.cells.map D.flat))))) :
    RunD P W f N Q ops k H (⟨dst, .buildSlice t n parts, ty, pos, aft, some (j, g)⟩ :: l) env :=
  runD_guarded rfl ht (fun _ => opOk_buildSlice rfl hu hsz hz hzl hn hfull (by simpa using hs) hle ⟨rfl, rfl⟩) h

/-- A call of a function value that the text has made. -/
theorem runO_callV {t : Tmp} {h : FuncId} {captured : Array Value} {args : Array Operand} {ats : Array TypeId} (hv : ev env (.tmp t) = .v (.func (.func h) #[] captured)) (hk : Known P h)
    (hK : CallA P W h (args.toList.map (fun x => (ev env x).flat) ++ captured.toList.map .v) H fun d H' => RunO P W f N Q ops l k (put N env dst d) H') :
    RunO P W f N Q ops (⟨dst, .call ⟨.value (.tmp t), args, ats⟩, ty, pos, aft, none⟩ :: l) k env H :=
  runO_call (first := #[]) rfl rfl rfl hv hk (by simpa using hK)

theorem runD_callVG {t : Tmp} {h : FuncId} {captured : Array Value} {args : Array Operand} {ats : Array TypeId} {j : Nat} {g : Bool} {cs : List Bool} (ht : guardA ops env j g = some cs)
    (hv : stripL cs (ev env (.tmp t)) = .v (.func (.func h) #[] captured)) (hk : Known P h) {d : D}
    (hK : allT cs → CallA P W h (args.toList.map (fun x => (stripL cs (ev env x)).flat) ++ captured.toList.map .v) H fun d' H' => d' = d ∧ H' = H)
    (hr : RunD P W f N Q ops k H l (put N env dst (wrapL cs d))) :
    RunD P W f N Q ops k H (⟨dst, .call ⟨.value (.tmp t), args, ats⟩, ty, pos, aft, some (j, g)⟩ :: l) env := by
  obtain ⟨fn, h1, h2, h3⟩ := hk.known
  exact runD_guarded rfl ht (fun hc => opOk_call (c := ⟨.value (.tmp t), args, ats⟩) (g := .tmp t) (first := #[]) rfl rfl hv h1 h2 h3 (by simpa using hK hc)) hr
theorem runD_callV {t : Tmp} {h : FuncId} {captured : Array Value} {args : Array Operand} {ats : Array TypeId}
    (hv : ev env (.tmp t) = .v (.func (.func h) #[] captured)) (hk : Known P h) {d : D}
    (hK : CallA P W h (args.toList.map (fun x => (ev env x).flat) ++ captured.toList.map .v) H fun d' H' => d' = d ∧ H' = H)
    (hr : RunD P W f N Q ops k H l (put N env dst d)) :
    RunD P W f N Q ops k H (⟨dst, .call ⟨.value (.tmp t), args, ats⟩, ty, pos, aft, none⟩ :: l) env := by
  obtain ⟨fn, h1, h2, h3⟩ := hk.known
  exact runD_op rfl (opOk_call (c := ⟨.value (.tmp t), args, ats⟩) (g := .tmp t) (first := #[]) rfl rfl hv h1 h2 h3 (by simpa using hK)) hr
end lits
end
attribute [go_sem] GoD
end Go.Sn
