/-
  Several texts in one: TsF, TsG, TsH.
-/
import Derived.Test.YtcfeklnmampndaaTsBE
import Derived.Test.YtcfeklnmampndaaSlE
import Derived.Test.YtcfeklnmampndaaStX
set_option linter.unusedSimpArgs false
set_option linter.unusedVariables false
namespace Go.Proofs.Ytcfeklnmampndaa
open Go Go.Sn Go.RowKit
-- NONE stH_none

theorem rb_nodup (d : D) : (rb d).Nodup := by cases d <;> simp [rb]
theorem fp_nodup {Ho H : Heap} {b : Nat} {t : DT} (h : AtDF Ho H b t) {x : DN} (hx : x ∈ t.N) : (fp x).Nodup := by
  have := h.nd
  unfold dbs at this
  have h2 := (List.nodup_append.1 this).2.1
  obtain ⟨A, B, e⟩ := List.append_of_mem hx
  rw [e, List.flatMap_append, List.flatMap_cons] at h2
  exact (List.nodup_append.1 (List.nodup_append.1 h2).2.1).1
theorem AtDF.done {Ho K H0 H1 : Heap} {b : Nat} {t : DT} {A B : List DN} {x : DN} {l : List Int} {d1 : D} (h : AtDF Ho K b t) (hN : t.N = A ++ x :: B)
    (hk : keeps K H0 (rb x.dD)) (hc : Coll H0 3 1 (intsC l) d1 H1) :
    AtDF Ho (H1.set x.b (.cells (dnC { x with dn := l, dD := d1 }) 58)) b { t with N := A ++ { x with dn := l, dD := d1 } :: B } := by
  have hm : x ∈ t.N := by rw [hN]; exact List.mem_append.2 (.inr (List.mem_cons_self ..))
  obtain ⟨hr1, hs1, hnew⟩ := coll_row hc
  have hnd : (fp x).Nodup := fp_nodup h hm
  unfold fp at hnd
  rw [List.nodup_cons, List.nodup_append] at hnd
  obtain ⟨g1, g2, g3, g4⟩ := hnd
  have hxr : x.b ∉ rb x.dD := fun e => g1 (by simp [e])
  have hx0 : H0 x.b = some (.cells (dnC x) 58) := hk _ _ hxr (h.ht.hn x hm)
  have hx1 : x.b ∉ rb d1 := fun e => by have := hnew _ e; rw [hx0] at this; cases this
  have hoth : ∀ q ∈ rb x.tD, q ∉ rb d1 := fun q hq e => by
    have hs := (h.ht.ht x hm).blk q hq
    obtain ⟨r, hr⟩ := Option.isSome_iff_exists.1 hs
    have hq2 : q ∉ rb x.dD := fun e2 => g4 q hq q e2 rfl
    have := hnew q e
    rw [hk q r hq2 hr] at this
    cases this
  have hks : keeps H1 (H1.set x.b (.cells (dnC { x with dn := l, dD := d1 }) 58)) [x.b] := fun q r hq hr => by rw [Heap.set_other _ _ (by simpa using hq)]; exact hr
  have hko : RowD (H1.set x.b (.cells (dnC { x with dn := l, dD := d1 }) 58)) 3 (intsC x.td) x.tD := by
    refine RowD.keep (h.ht.ht x hm) (S := x.b :: rb x.dD) (fun q r hq hr => ?_) fun q hq e => ?_
    · rw [Heap.set_other _ _ (fun e => hq (by rw [e]; exact List.mem_cons_self ..))]
      exact hs1 _ _ (hk _ _ (fun e => hq (List.mem_cons_of_mem _ e)) hr)
    · rcases List.mem_cons.1 e with e | e
      · exact g1 (by rw [← e]; simp [hq])
      · exact g4 q hq q e rfl
  have hkn : RowD (H1.set x.b (.cells (dnC { x with dn := l, dD := d1 }) 58)) 3 (intsC l) d1 :=
    RowD.keep hr1 hks fun q hq e => hx1 (by rw [← List.mem_singleton.1 e]; exact hq)
  have new : ∀ q, q ∈ rb d1 → q ∈ x.b :: (rb x.tD ++ rb x.dD) ∨ K q = none := fun q hq => by
    by_cases e : q ∈ rb x.dD
    · exact .inl (List.mem_cons_of_mem _ (List.mem_append.2 (.inr e)))
    · refine .inr ?_
      cases hx : K q with
      | none => rfl
      | some r =>
        have := hk q r e hx
        rw [hnew q hq] at this
        cases this
  refine h.turn (x' := { x with dn := l, dD := d1 }) hN rfl rfl (fun q r hq hr => ?_) (Heap.set_same _ _ _) hko hkn (fun q hq => ?_) ?_
  · have e1 : q ≠ x.b := fun e => hq (by rw [e]; exact List.mem_cons_self ..)
    rw [Heap.set_other _ _ e1]
    exact hs1 _ _ (hk _ _ (fun e => hq (List.mem_cons_of_mem _ (List.mem_append.2 (.inr e)))) hr)
  · unfold fp at hq ⊢
    rcases List.mem_cons.1 hq with e | e
    · exact .inl (by rw [e]; exact List.mem_cons_self ..)
    · rcases List.mem_append.1 e with e | e
      · exact .inl (List.mem_cons_of_mem _ (List.mem_append.2 (.inl e)))
      · exact new q e
  · unfold fp
    rw [List.nodup_cons, List.nodup_append]
    refine ⟨fun e => ?_, g2, rb_nodup d1, fun a ha c hc2 e => ?_⟩
    · rcases List.mem_append.1 e with e | e
      · exact g1 (List.mem_append.2 (.inl e))
      · exact hx1 e
    · exact hoth a ha (by rw [e]; exact hc2)
theorem AtDF.todo {Ho K H0 H1 : Heap} {b : Nat} {t : DT} {A B : List DN} {x : DN} {l : List Int} {d1 : D} (h : AtDF Ho K b t) (hN : t.N = A ++ x :: B)
    (hk : keeps K H0 (rb x.tD)) (hc : Coll H0 3 1 (intsC l) d1 H1) :
    AtDF Ho (H1.set x.b (.cells (dnC { x with td := l, tD := d1 }) 58)) b { t with N := A ++ { x with td := l, tD := d1 } :: B } := by
  have hm : x ∈ t.N := by rw [hN]; exact List.mem_append.2 (.inr (List.mem_cons_self ..))
  obtain ⟨hr1, hs1, hnew⟩ := coll_row hc
  have hnd : (fp x).Nodup := fp_nodup h hm
  unfold fp at hnd
  rw [List.nodup_cons, List.nodup_append] at hnd
  obtain ⟨g1, g2, g3, g4⟩ := hnd
  have hxr : x.b ∉ rb x.tD := fun e => g1 (by simp [e])
  have hx0 : H0 x.b = some (.cells (dnC x) 58) := hk _ _ hxr (h.ht.hn x hm)
  have hx1 : x.b ∉ rb d1 := fun e => by have := hnew _ e; rw [hx0] at this; cases this
  have hoth : ∀ q ∈ rb x.dD, q ∉ rb d1 := fun q hq e => by
    have hs := (h.ht.hd x hm).blk q hq
    obtain ⟨r, hr⟩ := Option.isSome_iff_exists.1 hs
    have hq2 : q ∉ rb x.tD := fun e2 => g4 q e2 q hq rfl
    have := hnew q e
    rw [hk q r hq2 hr] at this
    cases this
  have hks : keeps H1 (H1.set x.b (.cells (dnC { x with td := l, tD := d1 }) 58)) [x.b] := fun q r hq hr => by rw [Heap.set_other _ _ (by simpa using hq)]; exact hr
  have hko : RowD (H1.set x.b (.cells (dnC { x with td := l, tD := d1 }) 58)) 3 (intsC x.dn) x.dD := by
    refine RowD.keep (h.ht.hd x hm) (S := x.b :: rb x.tD) (fun q r hq hr => ?_) fun q hq e => ?_
    · rw [Heap.set_other _ _ (fun e => hq (by rw [e]; exact List.mem_cons_self ..))]
      exact hs1 _ _ (hk _ _ (fun e => hq (List.mem_cons_of_mem _ e)) hr)
    · rcases List.mem_cons.1 e with e | e
      · exact g1 (by rw [← e]; simp [hq])
      · exact g4 q e q hq rfl
  have hkn : RowD (H1.set x.b (.cells (dnC { x with td := l, tD := d1 }) 58)) 3 (intsC l) d1 :=
    RowD.keep hr1 hks fun q hq e => hx1 (by rw [← List.mem_singleton.1 e]; exact hq)
  have new : ∀ q, q ∈ rb d1 → q ∈ x.b :: (rb x.tD ++ rb x.dD) ∨ K q = none := fun q hq => by
    by_cases e : q ∈ rb x.tD
    · exact .inl (List.mem_cons_of_mem _ (List.mem_append.2 (.inl e)))
    · refine .inr ?_
      cases hx : K q with
      | none => rfl
      | some r =>
        have := hk q r e hx
        rw [hnew q hq] at this
        cases this
  refine h.turn (x' := { x with td := l, tD := d1 }) hN rfl rfl (fun q r hq hr => ?_) (Heap.set_same _ _ _) hkn hko (fun q hq => ?_) ?_
  · have e1 : q ≠ x.b := fun e => hq (by rw [e]; exact List.mem_cons_self ..)
    rw [Heap.set_other _ _ e1]
    exact hs1 _ _ (hk _ _ (fun e => hq (List.mem_cons_of_mem _ (List.mem_append.2 (.inl e)))) hr)
  · unfold fp at hq ⊢
    rcases List.mem_cons.1 hq with e | e
    · exact .inl (by rw [e]; exact List.mem_cons_self ..)
    · rcases List.mem_append.1 e with e | e
      · exact new q e
      · exact .inl (List.mem_cons_of_mem _ (List.mem_append.2 (.inr e)))
  · unfold fp
    rw [List.nodup_cons, List.nodup_append]
    refine ⟨fun e => ?_, rb_nodup d1, g3, fun a ha c hc2 e => ?_⟩
    · rcases List.mem_append.1 e with e | e
      · exact hx1 e
      · exact g1 (List.mem_append.2 (.inr e))
    · exact hoth c hc2 (by rw [← e]; exact ha)

theorem stR_DF {Ho H : Heap} {b : Nat} {t : DT} (h : AtDF Ho H b t) {lo : Lo} (s : St) (hb : H lo.b = none) (hc : H lo.c = none) (hne : lo.b ≠ lo.c) : AtDF (stR Ho lo s) (stR H lo s) b t :=
  (h.fresh _ hc).fresh _ (by rw [Heap.set_other _ _ hne]; exact hb)
/-- The thread that a claim draws. -/
def dclT (x : DN) (d : Int) : Int := (leftD x 8).getD ((IntKind.u64.wrap d).tmod ((leftD x 8).length : Int)).toNat default

theorem dClaim_none (W : World) (H : Heap) (b : Nat) (t : DT) (h : AtD H b t) (ho : OkD t) (k : Ky) (d : Int) (hx : t.fnd k = none) :
    CallA Try.prog W 18 [pB b, dS k, .v (.int .i64 d)] H fun r H' => r = .tup [.v (.int .i64 0), .list [], .v (.int .i64 6)] ∧ H' = H := by
  refine call_in Try.func18 rfl Try.ntmps18 (by simp) ?_
  have c1 := dFind_none W h ho hx
  repeat' (first
    | (with_reducible apply run_seq)
    | ((with_reducible apply run_go); simp only [go_sem, *])
    | ((with_reducible apply run_cond_t); (focus (simp only [go_sem, *]; done)))
    | ((with_reducible apply runO_skipF); (focus (simp only [go_sem, *]; rfl)); (focus rfl); (with_reducible apply runO_go); simp only [go_sem, *])
    | ((with_reducible apply runO_callF known22); simp only [go_sem, *]; refine (c1).use ?_; (with_reducible apply runO_go); simp only [go_sem, *])
    | ((with_reducible apply run_ret Try.func18 res18 (H' := H)); (focus (simp only [go_sem, *]; rfl)); (focus trivial); (focus (repeat (first | assumption | exact Heap.sub_refl _ | refine Heap.sub_congr ?_ | refine Heap.sub_set ?_ (by assumption) | refine Heap.sub_set2 ?_ (by first | assumption | (simp only [*]; done) | (simp only [Heap.set_none', stH_none, ne_eq, *, not_false_eq_true, and_self]; done)))))))
  exact ⟨rfl, rfl⟩
theorem dClaim_no (W : World) (H : Heap) (b : Nat) (t : DT) (h : AtD H b t) (ho : OkD t) (k : Ky) (d : Int) {x : DN} (hx : t.fnd k = some x) (hl : leftD x 8 = []) :
    CallA Try.prog W 18 [pB b, dS k, .v (.int .i64 d)] H fun r H' => r = .tup [.v (.int .i64 0), .list [], .v (.int .i64 6)] ∧ H' = H := by
  refine call_in Try.func18 rfl Try.ntmps18 (by simp) ?_
  have hm := (dfnd_mem hx).1
  have c1 := dFind_some W h ho hx
  have c2 := dLeft_call W H x (h.hn x hm) (h.ht x hm) (h.hd x hm) (ho.len x hm)
  rw [hl] at c2
  have c2' : CallA Try.prog W 23 [pB x.b] H fun r H' => r = .list [] ∧ H' = H := c2
  clear c2 hl
  repeat' (first
    | (with_reducible apply run_seq)
    | ((with_reducible apply run_go); simp only [go_sem, *])
    | ((with_reducible apply run_cond_t); (focus (simp only [go_sem, *]; done)))
    | ((with_reducible apply runO_callF known22); simp only [go_sem, *]; refine (c1).use ?_; (with_reducible apply runO_go); simp only [go_sem, *])
    | ((with_reducible apply runO_callFG known23); (focus (simp only [go_sem, *]; rfl)); (focus (intro _; simp only [go_sem, *]; exact c2')); (with_reducible apply runO_go); simp only [go_sem, *])
    | ((with_reducible apply run_ret Try.func18 res18 (H' := H)); (focus (simp only [go_sem, *]; rfl)); (focus trivial); (focus (repeat (first | assumption | exact Heap.sub_refl _ | refine Heap.sub_congr ?_ | refine Heap.sub_set ?_ (by assumption) | refine Heap.sub_set2 ?_ (by first | assumption | (simp only [*]; done) | (simp only [Heap.set_none', stH_none, ne_eq, *, not_false_eq_true, and_self]; done)))))))
  exact ⟨rfl, rfl⟩
end Go.Proofs.Ytcfeklnmampndaa
set_option linter.unusedSimpArgs false
set_option linter.unusedVariables false
namespace Go.Proofs.Ytcfeklnmampndaa
open Go Go.Sn Go.RowKit
-- NONE stH_none

set_option maxHeartbeats 8000000 in
theorem dClaim_ok (W : World) (Ho H : Heap) (b : Nat) (t : DT) (h : AtDF Ho H b t) (ho : OkD t) (k : Ky) (hk : okS k) (d : Int) {x : DN} (hx : t.fnd k = some x) (hl : leftD x 8 ≠ []) (h0 : (rpl t.s0 (rowK k)).1 = 0) (hc : 0 ≤ t.cl ∧ t.cl ≤ 1000000) :
    CallA Try.prog W 18 [pB b, dS k, .v (.int .i64 d)] H fun r H' =>
      r = .tup [.v (.int .i64 (dclT x d)), .list (intsC (chD (rpl t.s0 (rowK k)).2.2 x.sl x.dn (dclT x d))), .v (.int .i64 0)] ∧
      ∃ A B dD', t.N = A ++ x :: B ∧ AtDF Ho H' b { t with N := A ++ { x with dn := x.dn ++ [dclT x d], dD := dD' } :: B, cl := t.cl + 1 } := by
  refine call_in Try.func18 rfl Try.ntmps18 (by simp) ?_
  have hm := (dfnd_mem hx).1
  obtain ⟨A, B, hAB⟩ := List.append_of_mem hm
  have HAB : Hid _ := hAB
  clear hAB
  have c1 := dFind_some W h.ht ho hx
  have c2 := dLeft_call W H x (h.ht.hn x hm) (h.ht.ht x hm) (h.ht.hd x hm) (ho.len x hm)
  have hn := h.ht.node hx
  have hb := h.ht.hb
  have hl8 := leftD_len x 8
  have hpos := List.length_pos_iff.2 hl
  obtain ⟨j, hj, ej, wj⟩ := fmod_ex d (n := (leftD x 8).length) (by omega) (by omega)
  have hun := fu64_nat (n := (leftD x 8).length) (by omega)
  have hjL : ((j : Int) < ((leftD x 8).length : Int)) := by omega
  have hL0 : ¬ (((leftD x 8).length : Int) = 0) := by omega
  have hct : dclT x d = (leftD x 8).getD j default := by unfold dclT; rw [ej]; simp
  rw [hct]
  clear hct hl
  generalize leftD x 8 = L at *
  generalize hth : L.getD j default = th at *
  repeat' (first
    | (with_reducible apply run_seq)
    | (with_reducible apply run_skip)
    | ((with_reducible apply run_go); simp only [go_sem, *])
    | ((with_reducible apply run_cond_f); (focus (simp only [go_sem, *]; done)))
    | ((with_reducible apply runO_callF known22); simp only [go_sem, *]; refine (c1).use ?_; (with_reducible apply runO_go); simp only [go_sem, *])
    | ((with_reducible apply runO_callF known23); simp only [go_sem, *]; refine (c2).use ?_; (with_reducible apply runO_go); simp only [go_sem, *])
    | ((with_reducible apply runO_callFG known23); (focus (simp only [go_sem, *]; rfl)); (focus (intro _; simp only [go_sem, *]; exact c2)); (with_reducible apply runO_go); simp only [go_sem, *]))
  (with_reducible apply runO_callF known25); simp only [go_sem, *]
  refine (dAt_call W H b t.lo t.s0 t.nD t.cl hb h.ht.hr h.ht.hs k hk).mono (fun d1 H1 hh => ?_)
  rcases hh with ⟨h1, _⟩ | ⟨_, lo, hlb, hlc, hne, hcap, rfl, rfl⟩
  · exact absurd h0 h1
  have hso := ok_rpl (rowK k) h.ht.hs
  have hcap2 : (rpl t.s0 (rowK k)).2.2.ts.length ≤ lo.cap := by rw [hso.1.len, hso.2, ← h.ht.hs.len]; exact hcap
  have hat : AtR (stR H lo (rpl t.s0 (rowK k)).2.2) lo (rpl t.s0 (rowK k)).2.2 := stH_at hne hcap2
  have hsub : H.sub (stR H lo (rpl t.s0 (rowK k)).2.2) := stH_subH hlb hlc
  have hD := stR_DF h (rpl t.s0 (rowK k)).2.2 hlb hlc hne
  have hsubo : Ho.sub (stR Ho lo (rpl t.s0 (rowK k)).2.2) := stH_subH (h.none' hlb) (h.none' hlc)
  have c5 := rChild_call W _ lo _ hat hso.1 x.sl x.dn th (ho.len x hm).sl (ho.len x hm).dn
  generalize (rpl t.s0 (rowK k)).2.2 = st at *
  generalize chD st x.sl x.dn th = ch at *
  generalize stR H lo st = K at *
  generalize stR Ho lo st = Ko at *
  have hn2 := hsub _ _ hn
  have hb2 := hsub _ _ hb
  have hfd := (hD.ht.hd x hm).flat
  obtain ⟨H0, hc0, hk0, hn0⟩ := row_coll (hD.ht.hd x hm)
  have hxb : x.b ≠ b := fun e => by rw [← e] at hb; rw [hn] at hb; injection hb with e2; injection e2 with _ e3; exact absurd e3 (by decide)
  have hxb' : b ≠ x.b := fun e => hxb e.symm
  have hxr : x.b ∉ rb x.dD := fun e => by
    have := fp_nodup h hm
    unfold fp at this
    exact (List.nodup_cons.1 this).1 (by simp [e])
  have hbr : b ∉ rb x.dD := fun e => by
    have := h.nd
    unfold dbs at this
    have h2 : (b :: (([t.lo.b, t.lo.c] ++ rb t.nD) ++ t.N.flatMap fp)).Nodup := by simpa using this
    exact (List.nodup_cons.1 h2).1 (List.mem_append.2 (.inr (List.mem_flatMap.2 ⟨x, hm, by simp [fp, e]⟩)))
  have q0 := hk0 _ _ hbr hb2
  have p0 := hk0 _ _ hxr hn2
  have hwc : IntKind.i64.wrap (t.cl + 1) = t.cl + 1 := wrapP (by omega) (by omega)
  have hdl := (ho.len x hm).dn
  have HD : Hid _ := hD
  have HK0 : Hid _ := hk0
  have HX : Hid _ := hx
  clear c1 c2 h hD hk0 hn0 hlb hlc hne hcap hcap2 hat hso hx h0
  (with_reducible apply runO_go); simp only [go_sem, *]
  repeat' (first
    | (with_reducible apply run_seq)
    | ((with_reducible apply run_go); simp only [go_sem, *])
    | ((with_reducible apply run_drawGo Cl.zero Cl.zero_plain mixed); (focus kernel_rfl); simp only [go_sem, *])
    | ((with_reducible apply runD_callF known46); (focus rfl); (focus (simp only [go_sem, *]; exact c5)); (with_reducible first | apply runD_go Cl.zero_plain | apply runD_goC); simp only [go_sem, *])
    | ((with_reducible apply runO_buildSlice); (focus (simp only [go_sem]; rfl)); (focus (simp only [go_sem]; rfl)); (focus (simp only [go_sem]; rfl)); (focus rfl); (focus rfl); (focus (simp only [go_sem, *]; done)); (focus (simp only [go_sem, *]; done)); (focus decide); (with_reducible apply runO_go); simp only [go_sem, *]))
  (refine runO_coll (t := 41) Try.underlying41 sz3 by3 zr3 rfl (by simp only [go_sem, *]; exact hc0) (by simp only [go_sem, *]; rfl) (intsC_all _) (by simp) (by (try simp only [List.length_range, List.length_map, List.length_take, List.length_cons, List.length_nil, List.length_append, go_sem]); omega) (by (try simp only [maxLen, List.length_range, List.length_map, List.length_take, List.length_cons, List.length_nil, List.length_append, go_sem]); omega) (fun d1 H1 hc1 => ?_); (with_reducible apply runO_go); simp only [go_sem, *])
  obtain ⟨hr1, hs1, hnew⟩ := coll_row hc1
  obtain ⟨st1, st2, st3⟩ := hr1.stor
  have q1 := hs1 _ _ q0
  have p1 := hs1 _ _ p0
  have st4 : d1.cells.length = 1 := by rw [st2]; rfl
  have HC1 : Hid _ := hc1
  clear hr1 hc1 hc0 q0 p0 hnew
  repeat' (first
    | (with_reducible apply run_seq)
    | ((with_reducible apply run_go); simp only [go_sem, *])
    | ((with_reducible apply runO_store); (focus (simp only [go_sem]; rfl)); (focus (simp only [go_sem, *]; rfl)); (focus (simp only [go_sem, *]; rfl)); (focus (simp only [go_sem, *]; done)); (focus (simp only [go_sem, *]; done)); (focus (simp only [go_sem, *]; done)); (with_reducible apply runO_go); simp only [go_sem, *, Heap.set_set])
    | ((with_reducible apply run_ret Try.func18 res18 (H' := (H1.set x.b (.cells [.v (.string (strL x.k)), .v (.int .i64 x.ow), .list (intsC x.sl), x.tD, d1] 58)).set b (.cells [.v (.pointer (some ⟨t.lo.b, 0, none⟩)), t.nD, .v (.int .i64 (t.cl + 1))] 38))); (focus (simp only [go_sem, *]; rfl)); (focus trivial); (focus (repeat (first | assumption | exact Heap.sub_refl _ | refine Heap.sub_congr ?_ | refine Heap.sub_set ?_ (by assumption) | refine Heap.sub_set2 ?_ (by first | assumption | (simp only [*]; done) | (simp only [Heap.set_none', stH_none, ne_eq, *, not_false_eq_true, and_self]; done)))))))
  refine ⟨rfl, A, B, d1, HAB.out, ?_⟩
  have hc2 : Coll H0 3 1 (intsC (x.dn ++ [th])) d1 H1 := by rw [intsC_snoc]; exact HC1.out
  exact ((AtDF.done HD.out HAB.out HK0.out hc2).count (t.cl + 1)).less hsubo
end Go.Proofs.Ytcfeklnmampndaa
set_option linter.unusedSimpArgs false
set_option linter.unusedVariables false
namespace Go.Proofs.Ytcfeklnmampndaa
open Go Go.Sn Go.RowKit
-- NONE stH_none

theorem dMark_none (W : World) (H : Heap) (b : Nat) (t : DT) (h : AtD H b t) (ho : OkD t) (k : Ky) (l : List Int) (hx : t.fnd k = none) :
    CallA Try.prog W 16 [pB b, dS k, .list (intsC l)] H fun r H' => r = .v (.int .i64 6) ∧ H' = H := by
  refine call_in Try.func16 rfl Try.ntmps16 (by simp) ?_
  have c1 := dFind_none W h ho hx
  repeat' (first
    | (with_reducible apply run_seq)
    | ((with_reducible apply run_go); simp only [go_sem, *])
    | ((with_reducible apply run_cond_t); (focus (simp only [go_sem, *]; done)))
    | ((with_reducible apply runO_callF known22); simp only [go_sem, *]; refine (c1).use ?_; (with_reducible apply runO_go); simp only [go_sem, *])
    | ((with_reducible apply run_ret Try.func16 res16 (H' := H)); (focus (simp only [go_sem, *]; rfl)); (focus trivial); (focus (repeat (first | assumption | exact Heap.sub_refl _ | refine Heap.sub_congr ?_ | refine Heap.sub_set ?_ (by assumption) | refine Heap.sub_set2 ?_ (by first | assumption | (simp only [*]; done) | (simp only [Heap.set_none', stH_none, ne_eq, *, not_false_eq_true, and_self]; done)))))))
  exact ⟨rfl, rfl⟩
theorem filter_take {l : List Int} {p : Int → Bool} {i : Nat} (h : i < l.length) : (l.take (i + 1)).filter p = if p (l.getD i default) then (l.take i).filter p ++ [l.getD i default] else (l.take i).filter p := by
  rw [take_succ_getD _ _ h, List.filter_append]
  generalize l.getD i default = y
  cases hp : p y <;> simp [hp]

def tdT (t : DT) (A : List DN) (x : DN) (B : List DN) (td : List Int) (tD : D) : DT := { t with N := A ++ { x with td := td, tD := tD } :: B }

set_option maxHeartbeats 8000000 in
theorem dMark_some (W : World) (Ho H : Heap) (b : Nat) (t : DT) (h : AtDF Ho H b t) (ho : OkD t) (k : Ky) (hk : okS k) (l : List Int) (hll : l.length ≤ 1000) {x : DN} (hx : t.fnd k = some x) (h0 : (rpl t.s0 (rowK k)).1 = 0) (htl : x.td.length ≤ 900000) :
    CallA Try.prog W 16 [pB b, dS k, .list (intsC l)] H fun r H' => r = .v (.int .i64 0) ∧
      ∃ A B tD', t.N = A ++ x :: B ∧ AtDF Ho H' b { t with N := A ++ { x with td := x.td ++ l.filter (fun y => (rpl t.s0 (rowK k)).2.2.may y), tD := tD' } :: B } := by
  refine call_in Try.func16 rfl Try.ntmps16 (by simp) ?_
  have hm := (dfnd_mem hx).1
  obtain ⟨A, B, hAB⟩ := List.append_of_mem hm
  have HAB : Hid _ := hAB
  have htN : { t with N := A ++ x :: B } = t := by rw [← hAB]
  have HTN : Hid _ := htN
  clear hAB htN
  have c1 := dFind_some W h.ht ho hx
  have hb := h.ht.hb
  repeat' (first
    | (with_reducible apply run_seq)
    | (with_reducible apply run_skip)
    | ((with_reducible apply run_go); simp only [go_sem, *])
    | ((with_reducible apply run_cond_f); (focus (simp only [go_sem, *]; done)))
    | ((with_reducible apply runO_callF known22); simp only [go_sem, *]; refine (c1).use ?_; (with_reducible apply runO_go); simp only [go_sem, *]))
  (with_reducible apply runO_callF known25); simp only [go_sem, *]
  refine (dAt_call W H b t.lo t.s0 t.nD t.cl hb h.ht.hr h.ht.hs k hk).mono (fun d1 H1 hh => ?_)
  rcases hh with ⟨h1, _⟩ | ⟨_, lo, hlb, hlc, hne, hcap, rfl, rfl⟩
  · exact absurd h0 h1
  have hso := (ok_rpl (rowK k) h.ht.hs)
  have hcap2 : (rpl t.s0 (rowK k)).2.2.ts.length ≤ lo.cap := by rw [hso.1.len, hso.2, ← h.ht.hs.len]; exact hcap
  have hD := stR_DF h (rpl t.s0 (rowK k)).2.2 hlb hlc hne
  have hat : AtR (stR Ho lo (rpl t.s0 (rowK k)).2.2) lo (rpl t.s0 (rowK k)).2.2 := stH_at hne hcap2
  have hsubo : Ho.sub (stR Ho lo (rpl t.s0 (rowK k)).2.2) := stH_subH (h.none' hlb) (h.none' hlc)
  have hos := hso.1
  generalize (rpl t.s0 (rowK k)).2.2 = st at *
  generalize stR H lo st = K at *
  generalize stR Ho lo st = Ko at *
  have hD0 : AtDF Ko K b (tdT t A x B (x.td ++ (l.take 0).filter (fun y => st.may y)) x.tD) := by
    unfold tdT
    have e : x.td ++ (l.take 0).filter (fun y => st.may y) = x.td := by simp
    rw [e]
    have e2 : ({ x with td := x.td, tD := x.tD } : DN) = x := rfl
    rw [e2, HTN.out]
    exact hD
  clear c1 hb h hD hlb hlc hne hcap hcap2 hso hx h0
  (with_reducible apply runO_go); simp only [go_sem, *]
  repeat' (first
    | (with_reducible apply run_seq)
    | (with_reducible apply run_block)
    | ((with_reducible apply run_go); simp only [go_sem, *]))
  refine run_loop (fun na ea Ha => ∃ (i : Nat) (tD' : D), i ≤ l.length ∧ na = l.length - i ∧ (AtDF Ko Ha b (tdT t A x B (x.td ++ (l.take i).filter (fun y => st.may y)) tD')) ∧ ea 2 = .list (intsC l) ∧ ea 7 = pB x.b ∧ ea 8 = .v (.pointer (some ⟨lo.b, 0, none⟩)) ∧ ea 10 = .v (.int .i64 (i : Int)) ∧ True) (l.length)
      ⟨0, x.tD, Nat.zero_le _, rfl, hD0, (by simp only [go_sem, *]), (by simp only [go_sem, *]), (by simp only [go_sem, *]), (by simp only [go_sem] <;> rfl), trivial⟩ ?_
  rintro na ea Ha ih ⟨i, tD', ak, rfl, va0, as2, as7, as8, as10, -⟩
  have IHa : Hid _ := ih
  clear ih
  have Ia0 : Hid _ := va0
  clear va0
  have hA := Ia0.out
  by_cases hlt : i < l.length
  · have hw := wrap_succ (k := i) (by omega)
    have hatA := hat.mono hA.sub
    have c2 := nEnabled_call W hatA (l.getD i default) hos
    have hft := filter_take (p := fun y => st.may y) hlt
    have hxm : ({ x with td := x.td ++ (l.take i).filter (fun y => st.may y), tD := tD' } : DN) ∈ A ++ { x with td := x.td ++ (l.take i).filter (fun y => st.may y), tD := tD' } :: B := List.mem_append.2 (.inr (List.mem_cons_self ..))
    have hn : Ha x.b = some (.cells [.v (.string (strL x.k)), .v (.int .i64 x.ow), .list (intsC x.sl), tD', x.dD] 58) := hA.ht.hn _ hxm
    have hrow : RowD Ha 3 (intsC (x.td ++ (l.take i).filter (fun y => st.may y))) tD' := hA.ht.ht _ hxm
    have hfl : ((l.take i).filter (fun y => st.may y)).length ≤ 1000 := Nat.le_trans (List.length_filter_le _ _) (by rw [List.length_take]; omega)
    obtain ⟨H0, hc0, hk0, hn0⟩ := row_coll hrow
    generalize hy : l.getD i default = y at *
    cases hmy : st.may y with
    | false =>
      rw [hmy] at c2 hft
      have HF : Hid _ := hft
      have HA : Hid _ := hA
      clear hft hA hk0 hn0 hc0 hrow
      repeat' (first
    | (with_reducible apply run_seq)
    | (with_reducible apply run_block)
    | (with_reducible apply run_inBlock)
    | (with_reducible apply run_skip)
    | ((with_reducible apply run_go); simp only [go_sem, *])
    | ((with_reducible apply run_cond_t); (focus (simp only [go_sem, *]; done)))
    | ((with_reducible apply run_cond_f); (focus (simp only [go_sem, *]; done)))
    | ((with_reducible apply runO_callF known42); simp only [go_sem, *]; refine (c2).use ?_; (with_reducible apply runO_go); simp only [go_sem, *]))
      refine IHa.out (l.length - (i + 1)) _ _ (by omega) ⟨i + 1, tD', by omega, rfl, (by rw [HF.out]; exact HA.out), (by simp only [go_sem, *]), (by simp only [go_sem, *]), (by simp only [go_sem, *]), (by simp only [go_sem, *]), trivial⟩
    | true =>
      rw [hmy] at c2 hft
      rw [if_pos rfl] at hft
      have HF : Hid _ := hft
      have HA : Hid _ := hA
      have HK0 : Hid _ := hk0
      have hxr : x.b ∉ rb tD' := fun e => by
        have := fp_nodup hA hxm
        unfold fp at this
        exact (List.nodup_cons.1 this).1 (List.mem_append.2 (.inl e))
      have p0 := hk0 _ _ hxr hn
      generalize (l.take i).filter (fun y => st.may y) = M at *
      have htl2 : (x.td ++ M).length ≤ 901000 := by rw [List.length_append]; omega
      clear hft hA hk0 hn0 hrow
      repeat' (first
    | (with_reducible apply run_seq)
    | (with_reducible apply run_block)
    | (with_reducible apply run_skip)
    | ((with_reducible apply run_go); simp only [go_sem, *])
    | ((with_reducible apply run_drawGo Cl.zero Cl.zero_plain mixed); (focus kernel_rfl); simp only [go_sem, *])
    | ((with_reducible apply run_cond_t); (focus (simp only [go_sem, *]; done)))
    | ((with_reducible apply runO_callF known42); simp only [go_sem, *]; refine (c2).use ?_; (with_reducible apply runO_go); simp only [go_sem, *])
    | ((with_reducible apply runD_buildSlice); (focus (simp only [go_sem]; rfl)); (focus (simp only [go_sem]; rfl)); (focus (simp only [go_sem]; rfl)); (focus rfl); (focus rfl); (focus (simp only [go_sem, *]; done)); (focus (simp only [go_sem, *]; done)); (focus decide); (with_reducible first | apply runD_go Cl.zero_plain | apply runD_goC); simp only [go_sem, *]))
      (refine runD_coll (t := 41) Try.underlying41 sz3 by3 zr3 rfl (by simp only [go_sem, *]; exact hc0) (by simp only [go_sem, *]; rfl) (intsC_all _) (by simp) (by (try simp only [List.length_range, List.length_map, List.length_take, List.length_cons, List.length_nil, List.length_append, go_sem]); omega) (by (try simp only [maxLen, List.length_range, List.length_map, List.length_take, List.length_cons, List.length_nil, List.length_append, go_sem]); omega) (fun d1 H1 hc1 => ?_); (with_reducible first | apply runD_go Cl.zero_plain | apply runD_goC); simp only [go_sem, *])
      obtain ⟨hr1, hs1, hnew⟩ := coll_row hc1
      obtain ⟨st1, st2, st3⟩ := hr1.stor
      have p1 := hs1 _ _ p0
      have st4 : d1.cells.length = 1 := by rw [st2]; rfl
      have HC1 : Hid _ := hc1
      clear hr1 hc1 hc0 p0 hnew
      repeat' (first
    | (with_reducible apply run_inBlock)
    | ((with_reducible apply run_go); simp only [go_sem, *])
    | ((with_reducible apply runD_store); (focus (simp only [go_sem]; rfl)); (focus (simp only [go_sem, *]; rfl)); (focus (simp only [go_sem, *]; rfl)); (focus (simp only [go_sem, *]; done)); (focus (simp only [go_sem, *]; done)); (focus (simp only [go_sem, *]; done)); (focus (first | rfl | (simp only [go_sem, *]; done))); (with_reducible first | apply runD_go Cl.zero_plain | apply runD_goC); simp only [go_sem, *, Heap.set_set]))
      have hc2 : Coll H0 3 1 (intsC ((x.td ++ M) ++ [y])) d1 H1 := by rw [intsC_snoc]; exact HC1.out
      have hfin := AtDF.todo HA.out rfl HK0.out hc2
      refine IHa.out (l.length - (i + 1)) _ _ (by omega) ⟨i + 1, d1, by omega, rfl, (by rw [HF.out, ← List.append_assoc]; exact hfin), (by simp only [go_sem, *]), (by simp only [go_sem, *]), (by simp only [go_sem, *]), (by simp only [go_sem, *]), trivial⟩
  · obtain rfl : i = l.length := by omega
    rw [List.take_length] at hA
    have HA : Hid _ := hA.less hsubo
    clear hA
    repeat' (first
    | (with_reducible apply run_seq)
    | (with_reducible apply run_exit rfl)
    | ((with_reducible apply run_go); simp only [go_sem, *])
    | ((with_reducible apply run_cond_f); (focus (simp only [go_sem, *]; done)))
    | ((with_reducible apply run_ret Try.func16 res16 (H' := Ha)); (focus (simp only [go_sem, *]; rfl)); (focus trivial); (focus (repeat (first | assumption | exact Heap.sub_refl _ | refine Heap.sub_congr ?_ | refine Heap.sub_set ?_ (by assumption) | refine Heap.sub_set2 ?_ (by first | assumption | (simp only [*]; done) | (simp only [Heap.set_none', stH_none, ne_eq, *, not_false_eq_true, and_self]; done)))))))
    exact ⟨rfl, A, B, tD', HAB.out, HA.out⟩
end Go.Proofs.Ytcfeklnmampndaa
