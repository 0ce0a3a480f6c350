/-
  The document's calls, beside the program's tree: they tell the same.
-/
import Derived.Test.YtcfeklnmampndaaTsJ
set_option linter.unusedSimpArgs false
set_option linter.unusedVariables false
namespace Go.Proofs.Ytcfeklnmampndaa
open Go Go.Sn Go.RowKit
-- NONE stH_none

theorem mem_all {s : St} {z : Int} : z ∈ s.all ↔ s.may z = true := by
  unfold St.all
  constructor
  · intro h
    obtain ⟨k, hk, rfl⟩ := List.mem_map.1 h
    exact (List.mem_filter.1 hk).2
  · intro h
    have hh : s.has z = true := by unfold St.may at h; rw [Bool.and_eq_true] at h; exact h.1
    obtain ⟨k, rfl, hk⟩ := is_nat (has_is hh)
    exact List.mem_map.2 ⟨k, List.mem_filter.2 ⟨List.mem_range.2 hk, h⟩, rfl⟩

section
variable {H Ha : Heap} {l : TLo} {t t' : Tr} {b : Nat} {d : DT} {c : Nat}
theorem dMakeB (W : World) (hS : Sim t d c) (hc : c ≤ 1000) {k : Ky} (hk : okS k) {s : BitVec 8} {o : Int} (hm : t.Made k s o t') (h : Both H Ha l t' b d) :
    CallA Try.prog W 14 [pB b, dS k, .list (intsC (allB s 8)), .v (.int .i64 o)] Ha fun r K' => r = .v (.int .i64 (t.mkE k)) ∧ ∃ d', Both H K' l t' b d' ∧ Sim t' d' (c + 1) := by
  have hE := sim_mkE hS k
  rcases hm with ⟨hn, rfl⟩ | ⟨h0, nb, rfl⟩
  · refine (dMake_no W Ha b d h.atD (hS.okD hc) k hk (allB s 8) o (by rw [← hE]; exact hn)).mono fun r K' hh => ?_
    exact ⟨by rw [hh.1, hE], d, by rw [hh.2]; exact h, hS.more (by omega)⟩
  · obtain ⟨Hq, hD, hA⟩ := h.swap
    refine (dMake_ok W Hq Ha b d hD (hS.okD hc) k hk (allB s 8) o (by rw [← hE]; exact h0)).mono fun r K' hh => ?_
    obtain ⟨hr, n2, nD', hD'⟩ := hh
    exact ⟨by rw [hr, h0], _, Both2.swap ⟨Hq, hD', hA⟩, sim_put hS (mkE_ok h0).2.1 rfl rfl rfl⟩
theorem dMarkB (W : World) (hS : Sim t d c) (hc : c ≤ 1000) {c' : Int} (hO : OkN t c') {k : Ky} (hk : okS k) (s : BitVec 8) (h : Both H Ha l (t.mark k s) b d) :
    CallA Try.prog W 16 [pB b, dS k, .list (intsC (allB s 8))] Ha fun r K' => r = .v (.int .i64 (t.mrE k)) ∧ ∃ d', Both H K' l (t.mark k s) b d' ∧ Sim (t.mark k s) d' (c + 1) := by
  rcases hS.nd k with ⟨h1, h2⟩ | ⟨x, y, h1, h2, h3⟩
  · refine (dMark_none W Ha b d h.atD (hS.okD hc) k (allB s 8) h2).mono fun r K' hh => ?_
    have e1 : t.mrE k = 6 := by unfold Tr.mrE; rw [h1]; rfl
    have e2 : t.mark k s = t := by unfold Tr.mark; rw [h1]
    rw [e2] at h ⊢
    exact ⟨by rw [hh.1, e1], d, by rw [hh.2]; exact h, hS.more (by omega)⟩
  · have e1 : t.mrE k = 0 := by unfold Tr.mrE; rw [h1]; rfl
    have e2 : t.mark k s = t.upd k (t.mkd k x.n s) := by unfold Tr.mark; rw [h1]
    obtain ⟨Hq, hD, hA⟩ := h.swap
    have hy := dfnd_mem h2
    have hly := hS.len y hy.1
    have h0 : (rpl d.s0 (rowK k)).1 = 0 := by rw [hS.at]; exact hO.fnd h1
    have h8 := allB_len s 8
    refine (dMark_some W Hq Ha b d hD (hS.okD hc) k hk (allB s 8) (by omega) h2 h0 (by omega)).mono fun r K' hh => ?_
    obtain ⟨hr, A, B, tD', hN, hD'⟩ := hh
    refine ⟨by rw [hr, e1], _, Both2.swap ⟨Hq, hD', hA⟩, ?_⟩
    rw [e2]
    have hst : (rpl d.s0 (rowK k)).2.2 = (t.at k).2.2 := by rw [hS.at]
    have hfl : ((allB s 8).filter (fun y => (rpl d.s0 (rowK k)).2.2.may y)).length ≤ 8 := Nat.le_trans (List.length_filter_le _ _) h8
    refine sim_turn (n := t.mkd k x.n s) hS h1 h2 hN hD.kd rfl rfl ⟨h3.ow, h3.sl, fun z => ?_, h3.dn⟩ rfl hS.cl rfl ⟨rfl, rfl⟩ (Nat.le_succ c) ⟨hly.1, ?_, by have := hly.2.2; show y.dn.length ≤ _; omega⟩
    · show hasE (x.n.td ||| (s &&& ofB (t.at k).2.2.all)) z = decide (z ∈ y.td ++ (allB s 8).filter (fun y => (rpl d.s0 (rowK k)).2.2.may y))
      rw [has_or, has_and, h3.td, hst]
      rw [Bool.eq_iff_iff]
      simp only [Bool.or_eq_true, Bool.and_eq_true, decide_eq_true_eq, List.mem_append, List.mem_filter, mem_allB]
      constructor
      · rintro (e | ⟨e1, e2⟩)
        · exact .inl e
        · obtain ⟨j, hj, rfl⟩ := nat_of (has_in e2)
          rw [has_of _ hj, decide_eq_true_eq, mem_all] at e2
          exact .inr ⟨e1, e2⟩
      · rintro (e | ⟨e1, e2⟩)
        · exact .inl e
        · obtain ⟨j, hj, rfl⟩ := nat_of (has_in e1)
          refine .inr ⟨e1, ?_⟩
          rw [has_of _ hj, decide_eq_true_eq, mem_all]
          exact e2
    · show (y.td ++ _).length ≤ _
      rw [List.length_append]
      have := hly.2.1
      omega
theorem dClaimB (W : World) (hS : Sim t d c) (hc : c ≤ 1000) (hO : OkN t c) {k : Ky} (hk : okS k) (n : Int) (h : Both H Ha l (t.clm k n) b d) :
    CallA Try.prog W 18 [pB b, dS k, .v (.int .i64 n)] Ha fun r K' =>
      r = .tup [.v (.int .i64 (t.clR k n).1), .list (intsC (allB (t.clR k n).2.1 8)), .v (.int .i64 (t.clR k n).2.2)] ∧ ∃ d', Both H K' l (t.clm k n) b d' ∧ Sim (t.clm k n) d' (c + 1) := by
  have a0 : intsC (allB 0#8 8) = [] := by decide
  rcases hS.nd k with ⟨h1, h2⟩ | ⟨x, y, h1, h2, h3⟩
  · refine (dClaim_none W Ha b d h.atD (hS.okD hc) k n h2).mono fun r K' hh => ?_
    have e1 : t.clR k n = (0, 0#8, 6) := by unfold Tr.clR; rw [h1]
    have e2 : t.clm k n = t := by unfold Tr.clm; rw [h1]
    rw [e2] at h ⊢
    exact ⟨by rw [hh.1, e1, a0], d, by rw [hh.2]; exact h, hS.more (by omega)⟩
  · have hy := dfnd_mem h2
    have hly := hS.len y hy.1
    have hlf := nsim_left h3
    by_cases hl : x.n.left = 0#8
    · have hl2 : leftD y 8 = [] := by rw [← hlf, allB_nil]; exact hl
      refine (dClaim_no W Ha b d h.atD (hS.okD hc) k n h2 hl2).mono fun r K' hh => ?_
      have e1 : t.clR k n = (0, 0#8, 6) := by unfold Tr.clR; rw [h1]; simp only; rw [if_pos hl]
      have e2 : t.clm k n = t := by unfold Tr.clm; rw [h1]; simp only; rw [if_pos hl]
      rw [e2] at h ⊢
      exact ⟨by rw [hh.1, e1, a0], d, by rw [hh.2]; exact h, hS.more (by omega)⟩
    · have hl2 : leftD y 8 ≠ [] := by rw [← hlf]; exact fun e => hl ((allB_nil _).1 e)
      have e1 : t.clR k n = (clT x.n n, chE (t.at k).2.2 x.n.sl x.n.dn (clT x.n n), 0) := by unfold Tr.clR; rw [h1]; simp only; rw [if_neg hl]
      have e2 : t.clm k n = t.cla k x.n n := by unfold Tr.clm; rw [h1]; simp only; rw [if_neg hl]
      obtain ⟨Hq, hD, hA⟩ := h.swap
      have h0 : (rpl d.s0 (rowK k)).1 = 0 := by rw [hS.at]; exact hO.fnd h1
      have hcl0 := hO.cl0
      have hclc := hO.clc
      refine (dClaim_ok W Hq Ha b d hD (hS.okD hc) k hk n h2 hl2 h0 (by rw [hS.cl]; omega)).mono fun r K' hh => ?_
      obtain ⟨hr, A, B, dD', hN, hD'⟩ := hh
      have hct := nsim_clT h3 n
      refine ⟨?_, _, Both2.swap ⟨Hq, hD', hA⟩, ?_⟩
      · rw [hr, e1, ← hct, ← nsim_child h3]
        rw [hS.at]
      · rw [e2]
        refine sim_turn (n := x.n.cl n) hS h1 h2 hN hD.kd rfl rfl ⟨h3.ow, h3.sl, h3.td, fun z => ?_⟩ rfl (by show d.cl + 1 = t.cl + 1; rw [hS.cl]) rfl ⟨rfl, rfl⟩ (Nat.le_succ c) ⟨hly.1, by have := hly.2.1; show y.td.length ≤ _; omega, ?_⟩
        · show hasE (x.n.dn ||| bitE (clT x.n n)) z = decide (z ∈ y.dn ++ [dclT y n])
          rw [has_or, h3.dn, ← hct]
          rw [Bool.eq_iff_iff]
          simp only [Bool.or_eq_true, decide_eq_true_eq, List.mem_append, List.mem_singleton]
          have hrng := has_in (clT_has hl n)
          constructor
          · rintro (e | e)
            · exact .inl e
            · obtain ⟨j, hj, rfl⟩ := nat_of (has_in e)
              rw [has_one _ hj, decide_eq_true_eq] at e
              exact .inr e.symm
          · rintro (e | e)
            · exact .inl e
            · obtain ⟨j, hj, e3⟩ := nat_of hrng
              rw [e, e3, has_one _ hj]
              exact .inr (by simp)
        · show (y.dn ++ _).length ≤ _
          rw [List.length_append]
          have := hly.2.2
          simp
          omega
/-- The document's node handed over. -/
theorem dHandB (hS : Sim t d c) {k : Ky} (o : Int) (h : Both H Ha l (t.hand k o) b d) {y : DN} (hy : d.fnd k = some y) :
    ∃ d', Both H (Ha.set y.b (.cells [.v (.string (strL y.k)), .v (.int .i64 o), .list (intsC y.sl), y.tD, y.dD] 58)) l (t.hand k o) b d' ∧ Sim (t.hand k o) d' (c + 1) := by
  rcases hS.nd k with ⟨h1, h2⟩ | ⟨x, y2, h1, h2, h3⟩
  · rw [h2] at hy; cases hy
  · rw [h2] at hy
    cases hy
    obtain ⟨Hq, hD, hA⟩ := h.swap
    have hm := (dfnd_mem h2).1
    have hly := hS.len y hm
    obtain ⟨A, B, hN⟩ := List.append_of_mem hm
    have hnd := fp_nodup hD hm
    unfold fp at hnd
    have hx := (List.nodup_cons.1 hnd).1
    have hks : keeps Ha (Ha.set y.b (.cells [.v (.string (strL y.k)), .v (.int .i64 o), .list (intsC y.sl), y.tD, y.dD] 58)) [y.b] := fun q r hq hr => by rw [Heap.set_other _ _ (by simpa using hq)]; exact hr
    have hD' := hD.turn (x' := { y with ow := o }) (H' := Ha.set y.b (.cells [.v (.string (strL y.k)), .v (.int .i64 o), .list (intsC y.sl), y.tD, y.dD] 58)) hN rfl rfl
      (fun q r hq hr => by rw [Heap.set_other _ _ (fun e => hq (by rw [e]; exact List.mem_cons_self ..))]; exact hr) (Heap.set_same _ _ _)
      (RowD.keep (hD.ht.ht y hm) hks fun q hq e => hx (List.mem_append.2 (.inl (by rw [← List.mem_singleton.1 e]; exact hq))))
      (RowD.keep (hD.ht.hd y hm) hks fun q hq e => hx (List.mem_append.2 (.inr (by rw [← List.mem_singleton.1 e]; exact hq)))) (fun q hq => .inl hq) (by have := fp_nodup hD hm; exact this)
    have e2 : t.hand k o = t.upd k { x.n with ow := o } := by unfold Tr.hand; rw [h1]
    refine ⟨_, Both2.swap ⟨Hq, hD', hA⟩, ?_⟩
    rw [e2]
    exact sim_turn (n := { x.n with ow := o }) hS h1 h2 hN hD.kd rfl rfl ⟨rfl, h3.sl, h3.td, h3.dn⟩ rfl hS.cl rfl ⟨rfl, rfl⟩ (Nat.le_succ c) ⟨hly.1, by have := hly.2.1; show y.td.length ≤ _; omega, by have := hly.2.2; show y.dn.length ≤ _; omega⟩
end
end Go.Proofs.Ytcfeklnmampndaa
