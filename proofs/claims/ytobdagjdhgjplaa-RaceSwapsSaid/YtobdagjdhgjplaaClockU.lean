/-
  Contracts: rows that are the same, by their clocks: the program's walk.
-/
import Derived.Test.YtobdagjdhgjplaaClockT
set_option linter.unusedSimpArgs false
set_option linter.unusedVariables false
namespace Go.Proofs.Ytobdagjdhgjplaa
open Go Go.Sn Go.RowKit

theorem wf_of {x : Int} (h0 : 0 ≤ x) (h1 : x < 9223372036854775808) : (Lit.int .i64 x).wf = true := by
  have m1 : IntKind.i64.min = -9223372036854775808 := rfl
  have m2 : IntKind.i64.max = 9223372036854775807 := rfl
  simp only [Lit.wf, Bool.and_eq_true, decide_eq_true_eq, m1, m2]
  omega
theorem okP_pt {b : List Ev} (h : AllR b) (hl : b.length ≤ 1000000) {k : Nat} (hk : k < b.length) : okP (pt b k) := by
  rw [pt_eq h hk]
  have h1 := (thN_lt h hk).1
  have h2 := cn_mono h (thN b k) (i := k + 1) (k := b.length) (by omega) (Nat.le_refl _)
  have h3 := cntT_le (thN b k : Int) (b.take b.length)
  have h4 : (b.take b.length).length = b.length := by rw [List.take_length]
  unfold cn at h2
  unfold okP cn
  exact ⟨wf_of (by omega) (by simp only; omega), wf_of (by omega) (by simp only; omega)⟩
theorem mokWh {b : List Ev} (h : AllR b) (hl : b.length ≤ 1000000) {k : Nat} (hk : k ≤ b.length) : MOk okP (whM b k) := by
  refine ⟨fun x hx => ?_, by rw [whM_keys]; exact pts_nodup h hk⟩
  obtain ⟨i, hi, rfl⟩ := List.mem_map.1 hx
  exact okP_pt h hl (by have := List.mem_range.1 hi; omega)
theorem mokKn {b : List Ev} (h : AllR b) (hl : b.length ≤ 1000000) {k : Nat} (hk : k ≤ b.length) : MOk okP (knM b k) := by
  refine ⟨fun x hx => ?_, by rw [knM_keys]; exact pts_nodup h hk⟩
  obtain ⟨i, hi, rfl⟩ := List.mem_map.1 hx
  exact okP_pt h hl (by have := List.mem_range.1 hi; omega)

theorem pt_of {l : List Ev} {k : Nat} : pt l k = ((l.getD k default).th, ((clkU l l.length).getD k []).getD (l.getD k default).th.toNat 0) := rfl

set_option maxHeartbeats 4000000 in
theorem sameP_call (W : World) (H : Heap) (a b : List Ev) (ha : a.length ≤ 10000) (hb : b.length ≤ 10000) :
    CallA Try.prog W 44 [.list (evsC a), .list (evsC b)] H fun r H' => r = .v (.bool (sameE a b)) ∧ H' = H := by
  refine call_in Try.func44 rfl Try.ntmps44 (by simp) ?_
  have c1 := fun H => rightsC_call W H a (by omega)
  have c2 := fun H => rightsC_call W H b (by omega)
  repeat' (first
    | (with_reducible apply run_seq)
    | (with_reducible apply run_skip)
    | ((with_reducible apply run_go); simp only [go_sem, *])
    | ((with_reducible apply run_cond); (focus (simp only [go_sem, *]; rfl)); (all_goals intro _))
    | ((with_reducible apply runO_makeMap); intro pb hpb; have hfb := Heap.ne_of_none hpb; (try simp only [Heap.set_none'] at hpb); (with_reducible apply runO_go); simp only [go_sem, *])
    | ((with_reducible apply runO_callF known63); simp only [go_sem, *]; refine (c1 _).use ?_; (with_reducible apply runO_go); simp only [go_sem, *])
    | ((with_reducible apply runO_callFG known63); (focus (simp only [go_sem, *]; rfl)); (focus (intro _; simp only [go_sem, *]; exact c2 _)); (with_reducible apply runO_go); simp only [go_sem, *])
    | ((with_reducible apply run_ret Try.func44 res44 (H' := H)); (focus (simp only [go_sem, *]; rfl)); (focus trivial); (focus (repeat (first | assumption | exact Heap.sub_refl _ | refine Heap.sub_congr ?_ | refine Heap.sub_set ?_ (by assumption) | refine Heap.sub_set2 ?_ (by first | assumption | (simp only [*]; done) | (simp only [Heap.set_none', ne_eq, *, not_false_eq_true, and_self]; done)))))))
  · rename_i h
    refine ⟨?_, rfl⟩
    have : sameE a b = false := by
      unfold sameE
      cases h1 : a.all rightR <;> cases h2 : b.all rightR <;> simp_all
    rw [this]; rfl
  rename_i h m1 hm1 hf1
  clear hf1 hfb
  generalize pb = m2 at *
  simp only [Bool.or_eq_false_iff, Bool.not_eq_false', decide_eq_true_eq] at h
  obtain ⟨⟨hra, hrb⟩, hlen⟩ := h
  clear c1 c2
  have HL : Hid _ := hlen
  clear hlen
  have RA : Hid _ := hra
  clear hra
  have RB : Hid _ := hrb
  clear hrb
  have c3 := fun H => clocks_call W H a (by omega)
  have c4 := fun H => clocks_call W H b (by omega)
  have e3 : clksE a = clkU a a.length := by rw [clksE, if_pos RA.out]
  have e4 : clksE b = clkU b b.length := by rw [clksE, if_pos RB.out]
  have l3 : (clkU a a.length).length = a.length := clkU_length a a.length
  have l4 : (clkU b b.length).length = b.length := clkU_length b b.length
  rw [e3] at c3
  rw [e4] at c4
  clear e3 e4
  repeat' (first
    | (with_reducible apply run_block)
    | ((with_reducible apply runO_callF known64); simp only [go_sem, *]; refine (c4 _).use ?_; (with_reducible apply runO_go); simp only [go_sem, *]))
  clear c4
  refine run_loop (fun m e H' => ∃ k : Nat, k ≤ b.length ∧ m = b.length - k ∧ e 0 = .list (evsC a) ∧ e 1 = .list (evsC b) ∧ e 5 = .v (.map (some m1)) ∧ e 6 = .v (.map (some m2)) ∧ e 31 = .list (clksC (clkU b b.length)) ∧ e 32 = .v (.int .i64 (b.length : Int)) ∧ e 33 = .v (.int .i64 (k : Int)) ∧
      H' = (H.set m1 (.map (entC kcP clC (knM b k)))).set m2 (.map (entC kcP eC (whM b k)))) b.length
      ⟨0, Nat.zero_le _, rfl, (by simp only [go_sem, *]), (by simp only [go_sem, *]), (by simp only [go_sem, *]), (by simp only [go_sem, *]), (by simp only [go_sem, *]), (by simp only [go_sem, *]), by simp only [go_sem] <;> rfl, rfl⟩ ?_
  rintro m e H' ih ⟨k, hk, rfl, h0, h1, h5, h6, h31, h32, h33, rfl⟩
  have IH : Hid _ := ih
  clear ih
  by_cases hlt : k < b.length
  · have hw : IntKind.i64.wrap ((k : Int) + 1) = ((k + 1 : Nat) : Int) := by rw [wrap_nat (by omega) (by omega)]; rfl
    have hrb := right_bounds (rightR_getD RB.out hlt)
    have hpt : pt b k = ((b.getD k default).th, ((clkU b b.length).getD k []).getD (b.getD k default).th.toNat 0) := rfl
    have okp := okP_pt RB.out (by omega) hlt
    have mk1 := mokKn RB.out (show b.length ≤ 1000000 by omega) hk
    have mk2 := mokWh RB.out (show b.length ≤ 1000000 by omega) hk
    have pk1 := knM_put RB.out hlt
    have pk2 := whM_put RB.out hlt
    have hcl : clkAt b k = (clkU b b.length).getD k [] := rfl
    rw [hcl] at pk1
    clear hcl
    obtain ⟨c0, c1, c2, c3', hck⟩ := four_of (okC_getD (l := b) hlt).1
    rw [hck] at hpt pk1
    generalize hek : b.getD k default = ek at *
    have ht : ek.th = 0 ∨ ek.th = 1 ∨ ek.th = 2 ∨ ek.th = 3 := by omega
    clear hrb
    have HP : Hid _ := pk1
    have HP2 : Hid _ := pk2
    clear pk1 pk2
    rcases ht with ht | ht | ht | ht
    · have hp0 : pt b k = (0, c0) := by rw [hpt, ht]; rfl
      repeat' (first
    | (with_reducible apply run_seq)
    | (with_reducible apply run_block)
    | (with_reducible apply run_skip)
    | ((with_reducible apply run_go); simp only [go_sem, *])
    | ((with_reducible apply run_drawGo Cl.zero Cl.zero_plain mixed); (focus kernel_rfl); simp only [go_sem, *])
    | ((with_reducible apply run_cond_t); (focus (simp only [go_sem, *]; done)))
    | ((with_reducible apply runO_alloc); (focus (simp only [go_sem, *]; rfl)); intro pb hpb; have hfb := Heap.ne_of_none hpb; (try simp only [Heap.set_none'] at hpb); (with_reducible apply runO_go); simp only [go_sem, *])
    | ((with_reducible apply runD_alloc); (focus (simp only [go_sem, *]; rfl)); intro pb hpb; have hfb := Heap.ne_of_none hpb; (try simp only [Heap.set_none'] at hpb); (with_reducible first | apply runD_go Cl.zero_plain | apply runD_goC); simp only [go_sem, *])
    | ((with_reducible apply runO_store); (focus (simp only [go_sem]; rfl)); (focus (simp only [go_sem, *]; rfl)); (focus (simp only [go_sem, *]; rfl)); (focus (simp only [go_sem, *]; done)); (focus (simp only [go_sem, *]; done)); (focus (simp only [go_sem, *]; done)); (with_reducible apply runO_go); simp only [go_sem, *, Heap.set_set])
    | ((with_reducible apply runD_store); (focus (simp only [go_sem]; rfl)); (focus (simp only [go_sem, *]; rfl)); (focus (simp only [go_sem, *]; rfl)); (focus (simp only [go_sem, *]; done)); (focus (simp only [go_sem, *]; done)); (focus (simp only [go_sem, *]; done)); (focus (first | rfl | (simp only [go_sem, *]; done))); (with_reducible first | apply runD_go Cl.zero_plain | apply runD_goC); simp only [go_sem, *, Heap.set_set]))
      refine runD_mapUpdateM mtKnown (b := m1) (l := knM b k) (k := pt b k) (v := [c0, c1, c2, c3']) (by simp only [go_sem, *]) (by simp only [go_sem, *]) mk1 (by rw [hp0]; simp only [go_sem]; rfl) okp (by first | (simp only [go_sem]; done) | (simp only [go_sem]; rfl)) ?_
      (with_reducible first | apply runD_go Cl.zero_plain | apply runD_goC); simp only [go_sem]
      refine runD_mapEntryM mtWhat (b := m2) (l := whM b k) (k := pt b k) (by simp only [go_sem, *]) (by simp only [go_sem, *]) mk2 (by rw [hp0]; simp only [go_sem]; rfl) okp ?_
      (with_reducible first | apply runD_go Cl.zero_plain | apply runD_goC); simp only [go_sem]
      refine runD_entryStoreM mtWhat (b := m2) (l := whM b k) (k := pt b k) (v := ek) (z := ev0) (by simp only [go_sem, *]) (by simp only [go_sem, *]) mk2 (by simp only [go_sem, *]) (by first | (simp only [go_sem]; done) | (simp only [go_sem]; rfl)) ?_
      (with_reducible first | apply runD_go Cl.zero_plain | apply runD_goC); simp only [go_sem]
      repeat' (first
    | (with_reducible apply run_inBlock)
    | ((with_reducible apply run_go); simp only [go_sem, *]))
      refine run_drop (H' := (H.set m1 (.map (entC kcP clC (knM b (k + 1))))).set m2 (.map (entC kcP eC (whM b (k + 1))))) (fun c r hc => ?_) ?_
      · rw [← HP.out, ← HP2.out] at hc
        simp only [Heap.set_at] at hc ⊢
        clear IH mk1 mk2 c3
        grind
      refine IH.out (b.length - (k + 1)) _ _ (by omega) ⟨k + 1, by omega, rfl, (by simp only [go_sem, *]), (by simp only [go_sem, *]), (by simp only [go_sem, *]), (by simp only [go_sem, *]), (by simp only [go_sem, *]), (by simp only [go_sem, *]), (by simp only [go_sem, *]), rfl⟩
    · have hp0 : pt b k = (1, c1) := by rw [hpt, ht]; rfl
      repeat' (first
    | (with_reducible apply run_seq)
    | (with_reducible apply run_block)
    | (with_reducible apply run_skip)
    | ((with_reducible apply run_go); simp only [go_sem, *])
    | ((with_reducible apply run_drawGo Cl.zero Cl.zero_plain mixed); (focus kernel_rfl); simp only [go_sem, *])
    | ((with_reducible apply run_cond_t); (focus (simp only [go_sem, *]; done)))
    | ((with_reducible apply runO_alloc); (focus (simp only [go_sem, *]; rfl)); intro pb hpb; have hfb := Heap.ne_of_none hpb; (try simp only [Heap.set_none'] at hpb); (with_reducible apply runO_go); simp only [go_sem, *])
    | ((with_reducible apply runD_alloc); (focus (simp only [go_sem, *]; rfl)); intro pb hpb; have hfb := Heap.ne_of_none hpb; (try simp only [Heap.set_none'] at hpb); (with_reducible first | apply runD_go Cl.zero_plain | apply runD_goC); simp only [go_sem, *])
    | ((with_reducible apply runO_store); (focus (simp only [go_sem]; rfl)); (focus (simp only [go_sem, *]; rfl)); (focus (simp only [go_sem, *]; rfl)); (focus (simp only [go_sem, *]; done)); (focus (simp only [go_sem, *]; done)); (focus (simp only [go_sem, *]; done)); (with_reducible apply runO_go); simp only [go_sem, *, Heap.set_set])
    | ((with_reducible apply runD_store); (focus (simp only [go_sem]; rfl)); (focus (simp only [go_sem, *]; rfl)); (focus (simp only [go_sem, *]; rfl)); (focus (simp only [go_sem, *]; done)); (focus (simp only [go_sem, *]; done)); (focus (simp only [go_sem, *]; done)); (focus (first | rfl | (simp only [go_sem, *]; done))); (with_reducible first | apply runD_go Cl.zero_plain | apply runD_goC); simp only [go_sem, *, Heap.set_set]))
      refine runD_mapUpdateM mtKnown (b := m1) (l := knM b k) (k := pt b k) (v := [c0, c1, c2, c3']) (by simp only [go_sem, *]) (by simp only [go_sem, *]) mk1 (by rw [hp0]; simp only [go_sem]; rfl) okp (by first | (simp only [go_sem]; done) | (simp only [go_sem]; rfl)) ?_
      (with_reducible first | apply runD_go Cl.zero_plain | apply runD_goC); simp only [go_sem]
      refine runD_mapEntryM mtWhat (b := m2) (l := whM b k) (k := pt b k) (by simp only [go_sem, *]) (by simp only [go_sem, *]) mk2 (by rw [hp0]; simp only [go_sem]; rfl) okp ?_
      (with_reducible first | apply runD_go Cl.zero_plain | apply runD_goC); simp only [go_sem]
      refine runD_entryStoreM mtWhat (b := m2) (l := whM b k) (k := pt b k) (v := ek) (z := ev0) (by simp only [go_sem, *]) (by simp only [go_sem, *]) mk2 (by simp only [go_sem, *]) (by first | (simp only [go_sem]; done) | (simp only [go_sem]; rfl)) ?_
      (with_reducible first | apply runD_go Cl.zero_plain | apply runD_goC); simp only [go_sem]
      repeat' (first
    | (with_reducible apply run_inBlock)
    | ((with_reducible apply run_go); simp only [go_sem, *]))
      refine run_drop (H' := (H.set m1 (.map (entC kcP clC (knM b (k + 1))))).set m2 (.map (entC kcP eC (whM b (k + 1))))) (fun c r hc => ?_) ?_
      · rw [← HP.out, ← HP2.out] at hc
        simp only [Heap.set_at] at hc ⊢
        clear IH mk1 mk2 c3
        grind
      refine IH.out (b.length - (k + 1)) _ _ (by omega) ⟨k + 1, by omega, rfl, (by simp only [go_sem, *]), (by simp only [go_sem, *]), (by simp only [go_sem, *]), (by simp only [go_sem, *]), (by simp only [go_sem, *]), (by simp only [go_sem, *]), (by simp only [go_sem, *]), rfl⟩
    · have hp0 : pt b k = (2, c2) := by rw [hpt, ht]; rfl
      repeat' (first
    | (with_reducible apply run_seq)
    | (with_reducible apply run_block)
    | (with_reducible apply run_skip)
    | ((with_reducible apply run_go); simp only [go_sem, *])
    | ((with_reducible apply run_drawGo Cl.zero Cl.zero_plain mixed); (focus kernel_rfl); simp only [go_sem, *])
    | ((with_reducible apply run_cond_t); (focus (simp only [go_sem, *]; done)))
    | ((with_reducible apply runO_alloc); (focus (simp only [go_sem, *]; rfl)); intro pb hpb; have hfb := Heap.ne_of_none hpb; (try simp only [Heap.set_none'] at hpb); (with_reducible apply runO_go); simp only [go_sem, *])
    | ((with_reducible apply runD_alloc); (focus (simp only [go_sem, *]; rfl)); intro pb hpb; have hfb := Heap.ne_of_none hpb; (try simp only [Heap.set_none'] at hpb); (with_reducible first | apply runD_go Cl.zero_plain | apply runD_goC); simp only [go_sem, *])
    | ((with_reducible apply runO_store); (focus (simp only [go_sem]; rfl)); (focus (simp only [go_sem, *]; rfl)); (focus (simp only [go_sem, *]; rfl)); (focus (simp only [go_sem, *]; done)); (focus (simp only [go_sem, *]; done)); (focus (simp only [go_sem, *]; done)); (with_reducible apply runO_go); simp only [go_sem, *, Heap.set_set])
    | ((with_reducible apply runD_store); (focus (simp only [go_sem]; rfl)); (focus (simp only [go_sem, *]; rfl)); (focus (simp only [go_sem, *]; rfl)); (focus (simp only [go_sem, *]; done)); (focus (simp only [go_sem, *]; done)); (focus (simp only [go_sem, *]; done)); (focus (first | rfl | (simp only [go_sem, *]; done))); (with_reducible first | apply runD_go Cl.zero_plain | apply runD_goC); simp only [go_sem, *, Heap.set_set]))
      refine runD_mapUpdateM mtKnown (b := m1) (l := knM b k) (k := pt b k) (v := [c0, c1, c2, c3']) (by simp only [go_sem, *]) (by simp only [go_sem, *]) mk1 (by rw [hp0]; simp only [go_sem]; rfl) okp (by first | (simp only [go_sem]; done) | (simp only [go_sem]; rfl)) ?_
      (with_reducible first | apply runD_go Cl.zero_plain | apply runD_goC); simp only [go_sem]
      refine runD_mapEntryM mtWhat (b := m2) (l := whM b k) (k := pt b k) (by simp only [go_sem, *]) (by simp only [go_sem, *]) mk2 (by rw [hp0]; simp only [go_sem]; rfl) okp ?_
      (with_reducible first | apply runD_go Cl.zero_plain | apply runD_goC); simp only [go_sem]
      refine runD_entryStoreM mtWhat (b := m2) (l := whM b k) (k := pt b k) (v := ek) (z := ev0) (by simp only [go_sem, *]) (by simp only [go_sem, *]) mk2 (by simp only [go_sem, *]) (by first | (simp only [go_sem]; done) | (simp only [go_sem]; rfl)) ?_
      (with_reducible first | apply runD_go Cl.zero_plain | apply runD_goC); simp only [go_sem]
      repeat' (first
    | (with_reducible apply run_inBlock)
    | ((with_reducible apply run_go); simp only [go_sem, *]))
      refine run_drop (H' := (H.set m1 (.map (entC kcP clC (knM b (k + 1))))).set m2 (.map (entC kcP eC (whM b (k + 1))))) (fun c r hc => ?_) ?_
      · rw [← HP.out, ← HP2.out] at hc
        simp only [Heap.set_at] at hc ⊢
        clear IH mk1 mk2 c3
        grind
      refine IH.out (b.length - (k + 1)) _ _ (by omega) ⟨k + 1, by omega, rfl, (by simp only [go_sem, *]), (by simp only [go_sem, *]), (by simp only [go_sem, *]), (by simp only [go_sem, *]), (by simp only [go_sem, *]), (by simp only [go_sem, *]), (by simp only [go_sem, *]), rfl⟩
    · have hp0 : pt b k = (3, c3') := by rw [hpt, ht]; rfl
      repeat' (first
    | (with_reducible apply run_seq)
    | (with_reducible apply run_block)
    | (with_reducible apply run_skip)
    | ((with_reducible apply run_go); simp only [go_sem, *])
    | ((with_reducible apply run_drawGo Cl.zero Cl.zero_plain mixed); (focus kernel_rfl); simp only [go_sem, *])
    | ((with_reducible apply run_cond_t); (focus (simp only [go_sem, *]; done)))
    | ((with_reducible apply runO_alloc); (focus (simp only [go_sem, *]; rfl)); intro pb hpb; have hfb := Heap.ne_of_none hpb; (try simp only [Heap.set_none'] at hpb); (with_reducible apply runO_go); simp only [go_sem, *])
    | ((with_reducible apply runD_alloc); (focus (simp only [go_sem, *]; rfl)); intro pb hpb; have hfb := Heap.ne_of_none hpb; (try simp only [Heap.set_none'] at hpb); (with_reducible first | apply runD_go Cl.zero_plain | apply runD_goC); simp only [go_sem, *])
    | ((with_reducible apply runO_store); (focus (simp only [go_sem]; rfl)); (focus (simp only [go_sem, *]; rfl)); (focus (simp only [go_sem, *]; rfl)); (focus (simp only [go_sem, *]; done)); (focus (simp only [go_sem, *]; done)); (focus (simp only [go_sem, *]; done)); (with_reducible apply runO_go); simp only [go_sem, *, Heap.set_set])
    | ((with_reducible apply runD_store); (focus (simp only [go_sem]; rfl)); (focus (simp only [go_sem, *]; rfl)); (focus (simp only [go_sem, *]; rfl)); (focus (simp only [go_sem, *]; done)); (focus (simp only [go_sem, *]; done)); (focus (simp only [go_sem, *]; done)); (focus (first | rfl | (simp only [go_sem, *]; done))); (with_reducible first | apply runD_go Cl.zero_plain | apply runD_goC); simp only [go_sem, *, Heap.set_set]))
      refine runD_mapUpdateM mtKnown (b := m1) (l := knM b k) (k := pt b k) (v := [c0, c1, c2, c3']) (by simp only [go_sem, *]) (by simp only [go_sem, *]) mk1 (by rw [hp0]; simp only [go_sem]; rfl) okp (by first | (simp only [go_sem]; done) | (simp only [go_sem]; rfl)) ?_
      (with_reducible first | apply runD_go Cl.zero_plain | apply runD_goC); simp only [go_sem]
      refine runD_mapEntryM mtWhat (b := m2) (l := whM b k) (k := pt b k) (by simp only [go_sem, *]) (by simp only [go_sem, *]) mk2 (by rw [hp0]; simp only [go_sem]; rfl) okp ?_
      (with_reducible first | apply runD_go Cl.zero_plain | apply runD_goC); simp only [go_sem]
      refine runD_entryStoreM mtWhat (b := m2) (l := whM b k) (k := pt b k) (v := ek) (z := ev0) (by simp only [go_sem, *]) (by simp only [go_sem, *]) mk2 (by simp only [go_sem, *]) (by first | (simp only [go_sem]; done) | (simp only [go_sem]; rfl)) ?_
      (with_reducible first | apply runD_go Cl.zero_plain | apply runD_goC); simp only [go_sem]
      repeat' (first
    | (with_reducible apply run_inBlock)
    | ((with_reducible apply run_go); simp only [go_sem, *]))
      refine run_drop (H' := (H.set m1 (.map (entC kcP clC (knM b (k + 1))))).set m2 (.map (entC kcP eC (whM b (k + 1))))) (fun c r hc => ?_) ?_
      · rw [← HP.out, ← HP2.out] at hc
        simp only [Heap.set_at] at hc ⊢
        clear IH mk1 mk2 c3
        grind
      refine IH.out (b.length - (k + 1)) _ _ (by omega) ⟨k + 1, by omega, rfl, (by simp only [go_sem, *]), (by simp only [go_sem, *]), (by simp only [go_sem, *]), (by simp only [go_sem, *]), (by simp only [go_sem, *]), (by simp only [go_sem, *]), (by simp only [go_sem, *]), rfl⟩
  · obtain rfl : k = b.length := by omega
    repeat' (first
    | (with_reducible apply run_seq)
    | (with_reducible apply run_block)
    | (with_reducible apply run_exit rfl)
    | ((with_reducible apply run_go); simp only [go_sem, *])
    | ((with_reducible apply run_cond_f); (focus (simp only [go_sem, *]; done)))
    | ((with_reducible apply runO_callF known64); simp only [go_sem, *]; refine (c3 _).use ?_; (with_reducible apply runO_go); simp only [go_sem, *]))
    clear c3 IH
    refine run_loop (fun m e H' => ∃ k : Nat, k ≤ a.length ∧ m = a.length - k ∧ e 0 = .list (evsC a) ∧ e 5 = .v (.map (some m1)) ∧ e 6 = .v (.map (some m2)) ∧ e 64 = .list (clksC (clkU a a.length)) ∧ e 65 = .v (.int .i64 (a.length : Int)) ∧ e 66 = .v (.int .i64 (k : Int)) ∧
        (List.range k).all (okAt a b) = true ∧ (H.set m1 (.map (entC kcP clC (knM b b.length)))).set m2 (.map (entC kcP eC (whM b b.length))) = H') a.length
        ⟨0, Nat.zero_le _, rfl, (by simp only [go_sem, *]), (by simp only [go_sem, *]), (by simp only [go_sem, *]), (by simp only [go_sem, *]), (by simp only [go_sem, *]), by simp only [go_sem] <;> rfl, rfl, rfl⟩ ?_
    rintro m e2 H' ih ⟨k, hk, rfl, g0, g5, g6, g64, g65, g66, hall, rfl⟩
    have IH : Hid _ := ih
    have HA : Hid _ := hall
    clear ih hall h0 h1 h5 h6 h31 h32 h33 hlt e
    by_cases hlt : k < a.length
    · have hw : IntKind.i64.wrap ((k : Int) + 1) = ((k + 1 : Nat) : Int) := by rw [wrap_nat (by omega) (by omega)]; rfl
      have hra := right_bounds (rightR_getD RA.out hlt)
      have hpt : pt a k = ((a.getD k default).th, ((clkU a a.length).getD k []).getD (a.getD k default).th.toNat 0) := rfl
      have okp := okP_pt RA.out (by omega) hlt
      have mk1 := mokKn RB.out (show b.length ≤ 1000000 by omega) (Nat.le_refl _)
      have mk2 := mokWh RB.out (show b.length ≤ 1000000 by omega) (Nat.le_refl _)
      obtain ⟨c0, c1, c2, c3', hck⟩ := four_of (okC_getD (l := a) hlt).1
      rw [hck] at hpt
      have hok : okAt a b k = (decide ((getM (whM b b.length) (pt a k)).getD ev0 = a.getD k default) && decide ((getM (knM b b.length) (pt a k)).getD [0, 0, 0, 0] = (clkU a a.length).getD k [])) := rfl
      rw [hck] at hok
      generalize hek : a.getD k default = ek at *
      generalize hgw : (getM (whM b b.length) (pt a k)).getD ev0 = gw at *
      have hg4 : ((getM (knM b b.length) (pt a k)).getD [0, 0, 0, 0]).length = 4 := by
        cases hg : getM (knM b b.length) (pt a k) with
        | none => rfl
        | some v =>
          obtain ⟨j, hj, e⟩ := List.mem_map.1 (getM_some hg)
          injection e with _ e2
          simp only [Option.getD_some]
          rw [← e2]
          exact clkAt_length (List.mem_range.1 hj)
      obtain ⟨d0, d1, d2, d3, hgk⟩ := four_of hg4
      rw [hgk] at hok
      clear hg4
      have HK : Hid _ := hok
      clear hok
      have ht : ek.th = 0 ∨ ek.th = 1 ∨ ek.th = 2 ∨ ek.th = 3 := by omega
      clear hra
      rcases ht with ht | ht | ht | ht
      · have hp0 : pt a k = (0, c0) := by rw [hpt, ht]; rfl
        repeat' (first
    | (with_reducible apply run_seq)
    | (with_reducible apply run_block)
    | (with_reducible apply run_skip)
    | ((with_reducible apply run_go); simp only [go_sem, *])
    | ((with_reducible apply run_drawGo Cl.zero Cl.zero_plain mixed); (focus kernel_rfl); simp only [go_sem, *])
    | ((with_reducible apply run_cond_t); (focus (simp only [go_sem, *]; done)))
    | ((with_reducible apply runO_alloc); (focus (simp only [go_sem, *]; rfl)); intro pb hpb; have hfb := Heap.ne_of_none hpb; (try simp only [Heap.set_none'] at hpb); (with_reducible apply runO_go); simp only [go_sem, *])
    | ((with_reducible apply runD_alloc); (focus (simp only [go_sem, *]; rfl)); intro pb hpb; have hfb := Heap.ne_of_none hpb; (try simp only [Heap.set_none'] at hpb); (with_reducible first | apply runD_go Cl.zero_plain | apply runD_goC); simp only [go_sem, *])
    | ((with_reducible apply runO_store); (focus (simp only [go_sem]; rfl)); (focus (simp only [go_sem, *]; rfl)); (focus (simp only [go_sem, *]; rfl)); (focus (simp only [go_sem, *]; done)); (focus (simp only [go_sem, *]; done)); (focus (simp only [go_sem, *]; done)); (with_reducible apply runO_go); simp only [go_sem, *, Heap.set_set])
    | ((with_reducible apply runD_store); (focus (simp only [go_sem]; rfl)); (focus (simp only [go_sem, *]; rfl)); (focus (simp only [go_sem, *]; rfl)); (focus (simp only [go_sem, *]; done)); (focus (simp only [go_sem, *]; done)); (focus (simp only [go_sem, *]; done)); (focus (first | rfl | (simp only [go_sem, *]; done))); (with_reducible first | apply runD_go Cl.zero_plain | apply runD_goC); simp only [go_sem, *, Heap.set_set]))
        refine runD_lookupM mtWhat (b := m2) (l := whM b b.length) (k := pt a k) (by simp only [go_sem, *]) (by simp only [go_sem, *]) mk2 (by rw [hp0]; simp only [go_sem]; rfl) okp ?_
        rw [hgw]
        (with_reducible first | apply runD_go Cl.zero_plain | apply runD_goC); simp only [go_sem, *]
        (with_reducible apply runD_lookupMG mtKnown (b := m1) (l := knM b b.length) (k := pt a k))
        · simp only [go_sem, *]; rfl
        · simp only [go_sem, *]
        · simp only [go_sem, *]
        · exact mk1
        · rw [hp0]; simp only [go_sem]; rfl
        · exact okp
        rw [hgk]
        (with_reducible first | apply runD_go Cl.zero_plain | apply runD_goC); simp only [go_sem, *]
        repeat' (first
    | (with_reducible apply run_seq)
    | (with_reducible apply run_inBlock)
    | (with_reducible apply run_skip)
    | ((with_reducible apply run_go); simp only [go_sem, *])
    | ((with_reducible apply run_cond); (focus (simp only [go_sem, *]; rfl)); (all_goals intro _))
    | ((with_reducible apply run_ret Try.func44 res44 (H' := H)); (focus (simp only [go_sem, *]; rfl)); (focus trivial); (focus (repeat (first | assumption | exact Heap.sub_refl _ | refine Heap.sub_congr ?_ | refine Heap.sub_set ?_ (by assumption) | refine Heap.sub_set2 ?_ (by first | assumption | (simp only [*]; done) | (simp only [Heap.set_none', ne_eq, *, not_false_eq_true, and_self]; done)))))))
        · rename_i hcond
          have hno : sameE a b = false := by
            unfold sameE
            rw [all_range_not hlt (by rw [HK.out, ← Bool.not_eq_true', ← hcond]; simp)]
            simp
          exact ⟨by rw [hno]; rfl, rfl⟩
        · rename_i hcond
          refine run_drop (H' := (H.set m1 (.map (entC kcP clC (knM b b.length)))).set m2 (.map (entC kcP eC (whM b b.length)))) (fun c r hc => ?_) ?_
          · simp only [Heap.set_at] at hc ⊢
            clear IH mk1 mk2
            grind
          refine IH.out (a.length - (k + 1)) _ _ (by omega) ⟨k + 1, by omega, rfl, (by simp only [go_sem, *]), (by simp only [go_sem, *]), (by simp only [go_sem, *]), (by simp only [go_sem, *]), (by simp only [go_sem, *]), (by simp only [go_sem, *]), all_range_succ HA.out ?_, rfl⟩
          rw [HK.out, ← Bool.not_eq_false', ← hcond]
          simp
      · have hp0 : pt a k = (1, c1) := by rw [hpt, ht]; rfl
        repeat' (first
    | (with_reducible apply run_seq)
    | (with_reducible apply run_block)
    | (with_reducible apply run_skip)
    | ((with_reducible apply run_go); simp only [go_sem, *])
    | ((with_reducible apply run_drawGo Cl.zero Cl.zero_plain mixed); (focus kernel_rfl); simp only [go_sem, *])
    | ((with_reducible apply run_cond_t); (focus (simp only [go_sem, *]; done)))
    | ((with_reducible apply runO_alloc); (focus (simp only [go_sem, *]; rfl)); intro pb hpb; have hfb := Heap.ne_of_none hpb; (try simp only [Heap.set_none'] at hpb); (with_reducible apply runO_go); simp only [go_sem, *])
    | ((with_reducible apply runD_alloc); (focus (simp only [go_sem, *]; rfl)); intro pb hpb; have hfb := Heap.ne_of_none hpb; (try simp only [Heap.set_none'] at hpb); (with_reducible first | apply runD_go Cl.zero_plain | apply runD_goC); simp only [go_sem, *])
    | ((with_reducible apply runO_store); (focus (simp only [go_sem]; rfl)); (focus (simp only [go_sem, *]; rfl)); (focus (simp only [go_sem, *]; rfl)); (focus (simp only [go_sem, *]; done)); (focus (simp only [go_sem, *]; done)); (focus (simp only [go_sem, *]; done)); (with_reducible apply runO_go); simp only [go_sem, *, Heap.set_set])
    | ((with_reducible apply runD_store); (focus (simp only [go_sem]; rfl)); (focus (simp only [go_sem, *]; rfl)); (focus (simp only [go_sem, *]; rfl)); (focus (simp only [go_sem, *]; done)); (focus (simp only [go_sem, *]; done)); (focus (simp only [go_sem, *]; done)); (focus (first | rfl | (simp only [go_sem, *]; done))); (with_reducible first | apply runD_go Cl.zero_plain | apply runD_goC); simp only [go_sem, *, Heap.set_set]))
        refine runD_lookupM mtWhat (b := m2) (l := whM b b.length) (k := pt a k) (by simp only [go_sem, *]) (by simp only [go_sem, *]) mk2 (by rw [hp0]; simp only [go_sem]; rfl) okp ?_
        rw [hgw]
        (with_reducible first | apply runD_go Cl.zero_plain | apply runD_goC); simp only [go_sem, *]
        (with_reducible apply runD_lookupMG mtKnown (b := m1) (l := knM b b.length) (k := pt a k))
        · simp only [go_sem, *]; rfl
        · simp only [go_sem, *]
        · simp only [go_sem, *]
        · exact mk1
        · rw [hp0]; simp only [go_sem]; rfl
        · exact okp
        rw [hgk]
        (with_reducible first | apply runD_go Cl.zero_plain | apply runD_goC); simp only [go_sem, *]
        repeat' (first
    | (with_reducible apply run_seq)
    | (with_reducible apply run_inBlock)
    | (with_reducible apply run_skip)
    | ((with_reducible apply run_go); simp only [go_sem, *])
    | ((with_reducible apply run_cond); (focus (simp only [go_sem, *]; rfl)); (all_goals intro _))
    | ((with_reducible apply run_ret Try.func44 res44 (H' := H)); (focus (simp only [go_sem, *]; rfl)); (focus trivial); (focus (repeat (first | assumption | exact Heap.sub_refl _ | refine Heap.sub_congr ?_ | refine Heap.sub_set ?_ (by assumption) | refine Heap.sub_set2 ?_ (by first | assumption | (simp only [*]; done) | (simp only [Heap.set_none', ne_eq, *, not_false_eq_true, and_self]; done)))))))
        · rename_i hcond
          have hno : sameE a b = false := by
            unfold sameE
            rw [all_range_not hlt (by rw [HK.out, ← Bool.not_eq_true', ← hcond]; simp)]
            simp
          exact ⟨by rw [hno]; rfl, rfl⟩
        · rename_i hcond
          refine run_drop (H' := (H.set m1 (.map (entC kcP clC (knM b b.length)))).set m2 (.map (entC kcP eC (whM b b.length)))) (fun c r hc => ?_) ?_
          · simp only [Heap.set_at] at hc ⊢
            clear IH mk1 mk2
            grind
          refine IH.out (a.length - (k + 1)) _ _ (by omega) ⟨k + 1, by omega, rfl, (by simp only [go_sem, *]), (by simp only [go_sem, *]), (by simp only [go_sem, *]), (by simp only [go_sem, *]), (by simp only [go_sem, *]), (by simp only [go_sem, *]), all_range_succ HA.out ?_, rfl⟩
          rw [HK.out, ← Bool.not_eq_false', ← hcond]
          simp
      · have hp0 : pt a k = (2, c2) := by rw [hpt, ht]; rfl
        repeat' (first
    | (with_reducible apply run_seq)
    | (with_reducible apply run_block)
    | (with_reducible apply run_skip)
    | ((with_reducible apply run_go); simp only [go_sem, *])
    | ((with_reducible apply run_drawGo Cl.zero Cl.zero_plain mixed); (focus kernel_rfl); simp only [go_sem, *])
    | ((with_reducible apply run_cond_t); (focus (simp only [go_sem, *]; done)))
    | ((with_reducible apply runO_alloc); (focus (simp only [go_sem, *]; rfl)); intro pb hpb; have hfb := Heap.ne_of_none hpb; (try simp only [Heap.set_none'] at hpb); (with_reducible apply runO_go); simp only [go_sem, *])
    | ((with_reducible apply runD_alloc); (focus (simp only [go_sem, *]; rfl)); intro pb hpb; have hfb := Heap.ne_of_none hpb; (try simp only [Heap.set_none'] at hpb); (with_reducible first | apply runD_go Cl.zero_plain | apply runD_goC); simp only [go_sem, *])
    | ((with_reducible apply runO_store); (focus (simp only [go_sem]; rfl)); (focus (simp only [go_sem, *]; rfl)); (focus (simp only [go_sem, *]; rfl)); (focus (simp only [go_sem, *]; done)); (focus (simp only [go_sem, *]; done)); (focus (simp only [go_sem, *]; done)); (with_reducible apply runO_go); simp only [go_sem, *, Heap.set_set])
    | ((with_reducible apply runD_store); (focus (simp only [go_sem]; rfl)); (focus (simp only [go_sem, *]; rfl)); (focus (simp only [go_sem, *]; rfl)); (focus (simp only [go_sem, *]; done)); (focus (simp only [go_sem, *]; done)); (focus (simp only [go_sem, *]; done)); (focus (first | rfl | (simp only [go_sem, *]; done))); (with_reducible first | apply runD_go Cl.zero_plain | apply runD_goC); simp only [go_sem, *, Heap.set_set]))
        refine runD_lookupM mtWhat (b := m2) (l := whM b b.length) (k := pt a k) (by simp only [go_sem, *]) (by simp only [go_sem, *]) mk2 (by rw [hp0]; simp only [go_sem]; rfl) okp ?_
        rw [hgw]
        (with_reducible first | apply runD_go Cl.zero_plain | apply runD_goC); simp only [go_sem, *]
        (with_reducible apply runD_lookupMG mtKnown (b := m1) (l := knM b b.length) (k := pt a k))
        · simp only [go_sem, *]; rfl
        · simp only [go_sem, *]
        · simp only [go_sem, *]
        · exact mk1
        · rw [hp0]; simp only [go_sem]; rfl
        · exact okp
        rw [hgk]
        (with_reducible first | apply runD_go Cl.zero_plain | apply runD_goC); simp only [go_sem, *]
        repeat' (first
    | (with_reducible apply run_seq)
    | (with_reducible apply run_inBlock)
    | (with_reducible apply run_skip)
    | ((with_reducible apply run_go); simp only [go_sem, *])
    | ((with_reducible apply run_cond); (focus (simp only [go_sem, *]; rfl)); (all_goals intro _))
    | ((with_reducible apply run_ret Try.func44 res44 (H' := H)); (focus (simp only [go_sem, *]; rfl)); (focus trivial); (focus (repeat (first | assumption | exact Heap.sub_refl _ | refine Heap.sub_congr ?_ | refine Heap.sub_set ?_ (by assumption) | refine Heap.sub_set2 ?_ (by first | assumption | (simp only [*]; done) | (simp only [Heap.set_none', ne_eq, *, not_false_eq_true, and_self]; done)))))))
        · rename_i hcond
          have hno : sameE a b = false := by
            unfold sameE
            rw [all_range_not hlt (by rw [HK.out, ← Bool.not_eq_true', ← hcond]; simp)]
            simp
          exact ⟨by rw [hno]; rfl, rfl⟩
        · rename_i hcond
          refine run_drop (H' := (H.set m1 (.map (entC kcP clC (knM b b.length)))).set m2 (.map (entC kcP eC (whM b b.length)))) (fun c r hc => ?_) ?_
          · simp only [Heap.set_at] at hc ⊢
            clear IH mk1 mk2
            grind
          refine IH.out (a.length - (k + 1)) _ _ (by omega) ⟨k + 1, by omega, rfl, (by simp only [go_sem, *]), (by simp only [go_sem, *]), (by simp only [go_sem, *]), (by simp only [go_sem, *]), (by simp only [go_sem, *]), (by simp only [go_sem, *]), all_range_succ HA.out ?_, rfl⟩
          rw [HK.out, ← Bool.not_eq_false', ← hcond]
          simp
      · have hp0 : pt a k = (3, c3') := by rw [hpt, ht]; rfl
        repeat' (first
    | (with_reducible apply run_seq)
    | (with_reducible apply run_block)
    | (with_reducible apply run_skip)
    | ((with_reducible apply run_go); simp only [go_sem, *])
    | ((with_reducible apply run_drawGo Cl.zero Cl.zero_plain mixed); (focus kernel_rfl); simp only [go_sem, *])
    | ((with_reducible apply run_cond_t); (focus (simp only [go_sem, *]; done)))
    | ((with_reducible apply runO_alloc); (focus (simp only [go_sem, *]; rfl)); intro pb hpb; have hfb := Heap.ne_of_none hpb; (try simp only [Heap.set_none'] at hpb); (with_reducible apply runO_go); simp only [go_sem, *])
    | ((with_reducible apply runD_alloc); (focus (simp only [go_sem, *]; rfl)); intro pb hpb; have hfb := Heap.ne_of_none hpb; (try simp only [Heap.set_none'] at hpb); (with_reducible first | apply runD_go Cl.zero_plain | apply runD_goC); simp only [go_sem, *])
    | ((with_reducible apply runO_store); (focus (simp only [go_sem]; rfl)); (focus (simp only [go_sem, *]; rfl)); (focus (simp only [go_sem, *]; rfl)); (focus (simp only [go_sem, *]; done)); (focus (simp only [go_sem, *]; done)); (focus (simp only [go_sem, *]; done)); (with_reducible apply runO_go); simp only [go_sem, *, Heap.set_set])
    | ((with_reducible apply runD_store); (focus (simp only [go_sem]; rfl)); (focus (simp only [go_sem, *]; rfl)); (focus (simp only [go_sem, *]; rfl)); (focus (simp only [go_sem, *]; done)); (focus (simp only [go_sem, *]; done)); (focus (simp only [go_sem, *]; done)); (focus (first | rfl | (simp only [go_sem, *]; done))); (with_reducible first | apply runD_go Cl.zero_plain | apply runD_goC); simp only [go_sem, *, Heap.set_set]))
        refine runD_lookupM mtWhat (b := m2) (l := whM b b.length) (k := pt a k) (by simp only [go_sem, *]) (by simp only [go_sem, *]) mk2 (by rw [hp0]; simp only [go_sem]; rfl) okp ?_
        rw [hgw]
        (with_reducible first | apply runD_go Cl.zero_plain | apply runD_goC); simp only [go_sem, *]
        (with_reducible apply runD_lookupMG mtKnown (b := m1) (l := knM b b.length) (k := pt a k))
        · simp only [go_sem, *]; rfl
        · simp only [go_sem, *]
        · simp only [go_sem, *]
        · exact mk1
        · rw [hp0]; simp only [go_sem]; rfl
        · exact okp
        rw [hgk]
        (with_reducible first | apply runD_go Cl.zero_plain | apply runD_goC); simp only [go_sem, *]
        repeat' (first
    | (with_reducible apply run_seq)
    | (with_reducible apply run_inBlock)
    | (with_reducible apply run_skip)
    | ((with_reducible apply run_go); simp only [go_sem, *])
    | ((with_reducible apply run_cond); (focus (simp only [go_sem, *]; rfl)); (all_goals intro _))
    | ((with_reducible apply run_ret Try.func44 res44 (H' := H)); (focus (simp only [go_sem, *]; rfl)); (focus trivial); (focus (repeat (first | assumption | exact Heap.sub_refl _ | refine Heap.sub_congr ?_ | refine Heap.sub_set ?_ (by assumption) | refine Heap.sub_set2 ?_ (by first | assumption | (simp only [*]; done) | (simp only [Heap.set_none', ne_eq, *, not_false_eq_true, and_self]; done)))))))
        · rename_i hcond
          have hno : sameE a b = false := by
            unfold sameE
            rw [all_range_not hlt (by rw [HK.out, ← Bool.not_eq_true', ← hcond]; simp)]
            simp
          exact ⟨by rw [hno]; rfl, rfl⟩
        · rename_i hcond
          refine run_drop (H' := (H.set m1 (.map (entC kcP clC (knM b b.length)))).set m2 (.map (entC kcP eC (whM b b.length)))) (fun c r hc => ?_) ?_
          · simp only [Heap.set_at] at hc ⊢
            clear IH mk1 mk2
            grind
          refine IH.out (a.length - (k + 1)) _ _ (by omega) ⟨k + 1, by omega, rfl, (by simp only [go_sem, *]), (by simp only [go_sem, *]), (by simp only [go_sem, *]), (by simp only [go_sem, *]), (by simp only [go_sem, *]), (by simp only [go_sem, *]), all_range_succ HA.out ?_, rfl⟩
          rw [HK.out, ← Bool.not_eq_false', ← hcond]
          simp
    · obtain rfl : k = a.length := by omega
      repeat' (first
    | (with_reducible apply run_seq)
    | (with_reducible apply run_exit rfl)
    | ((with_reducible apply run_go); simp only [go_sem, *])
    | ((with_reducible apply run_cond_f); (focus (simp only [go_sem, *]; done)))
    | ((with_reducible apply run_ret Try.func44 res44 (H' := H)); (focus (simp only [go_sem, *]; rfl)); (focus trivial); (focus (repeat (first | assumption | exact Heap.sub_refl _ | refine Heap.sub_congr ?_ | refine Heap.sub_set ?_ (by assumption) | refine Heap.sub_set2 ?_ (by first | assumption | (simp only [*]; done) | (simp only [Heap.set_none', ne_eq, *, not_false_eq_true, and_self]; done)))))))
      refine ⟨?_, rfl⟩
      have : sameE a b = true := by
        unfold sameE
        rw [RA.out, RB.out, HA.out, decide_eq_true HL.out]
        rfl
      rw [this]; rfl
end Go.Proofs.Ytobdagjdhgjplaa
