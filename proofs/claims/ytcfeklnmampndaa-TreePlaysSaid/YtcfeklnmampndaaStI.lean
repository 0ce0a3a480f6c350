/-
  Contracts: a step of the document's state.
-/
import Derived.Test.YtcfeklnmampndaaStFH
set_option linter.unusedSimpArgs false
set_option linter.unusedVariables false
namespace Go.Proofs.Ytcfeklnmampndaa
open Go Go.Sn Go.RowKit

abbrev AtR (H : Heap) (l : Lo) (s : St) : Prop := AtS 94 91 H l s
abbrev stR (H : Heap) (l : Lo) (s : St) : Heap := stH 94 91 H l s

theorem evI_kd (s : St) (t : Int) (i : In) : (s.evI t i).kd = if i.kd = 1 then 2 else if i.kd = 2 then 3 else if i.kd = 5 then 4 else if i.kd = 6 then (if s.hol i.x = t then 5 else 1) else 1 := by
  unfold St.evI
  split
  · rfl
  · split
    · rfl
    · split
      · rfl
      · split
        · split <;> rfl
        · split <;> rfl

set_option maxHeartbeats 16000000 in
theorem nStep_call (W : World) (H : Heap) (l : Lo) (s : St) (t : Int) (h : AtR H l s) (hs : OkSt s) :
    CallA Try.prog W 50 [.v (.pointer (some ⟨l.b, 0, none⟩)), .v (.int .i64 t)] H fun r H' => r = .tup [.agg (evC (s.stE t)), .v (.int .i64 (s.err t))] ∧ H' = stR H l (s.stS t) := by
  refine call_in Try.func50 rfl Try.ntmps50 (by simp) ?_
  have c2 := fun H' (hk : H.sub H') => nNext_call W (h.mono hk) t hs
  have c3 := fun H' (hk : H.sub H') => nEnabled_call W (h.mono hk) t hs
  have stay : s.err t ≠ 0 → stR H l (s.stS t) = H ∧ s.stE t = ev0 := fun e => by
    unfold St.stS St.stE
    rw [if_neg e, if_neg e]
    exact ⟨stH_self h, rfl⟩
  have HS : Hid _ := stay
  have HH : Hid _ := h
  have HO : Hid _ := hs
  have hb := h.cell
  have hc := h.hc
  have hne := h.ne
  have hcap := h.cap
  have hne' : l.c ≠ l.b := fun e => hne e.symm
  clear stay h hs
  cases his : s.is t with
  | false =>
    have he : s.err t = 2 := by unfold St.err; rw [his]; rfl
    obtain ⟨e1, e2⟩ := HS.out (by rw [he]; decide)
    have hi : ¬ (0 ≤ t ∧ t < (s.ts.length : Int)) := by unfold St.is at his; simpa using his
    rw [he, e1, e2]
    by_cases h0 : t < 0
    · clear hi
      repeat' (first
    | (with_reducible apply run_seq)
    | ((with_reducible apply run_go); simp only [go_sem, *])
    | ((with_reducible apply run_cond_t); (focus (simp only [go_sem, *]; done)))
    | ((with_reducible apply runO_alloc); (focus (simp only [go_sem, *]; rfl)); intro pb hpb; have hfb := Heap.ne_of_none hpb; (try simp only [Heap.set_none'] at hpb); (with_reducible apply runO_go); simp only [go_sem, *])
    | ((with_reducible apply runO_store); (focus (simp only [go_sem]; rfl)); (focus (simp only [go_sem, *]; rfl)); (focus (simp only [go_sem, *]; rfl)); (focus (simp only [go_sem, *]; done)); (focus (simp only [go_sem, *]; done)); (focus (simp only [go_sem, *]; done)); (with_reducible apply runO_go); simp only [go_sem, *, Heap.set_set])
    | ((with_reducible apply run_ret Try.func50 res50 (H' := H)); (focus (simp only [go_sem, *]; rfl)); (focus trivial); (focus (repeat (first | assumption | exact Heap.sub_refl _ | refine Heap.sub_congr ?_ | refine Heap.sub_set ?_ (by assumption) | refine Heap.sub_set2 ?_ (by first | assumption | (simp only [*]; done) | (simp only [Heap.set_none', ne_eq, *, not_false_eq_true, and_self]; done)))))))
      exact ⟨rfl, rfl⟩
    · have h1 : (s.ts.length : Int) ≤ t := by omega
      clear hi
      repeat' (first
    | (with_reducible apply run_seq)
    | ((with_reducible apply run_go); simp only [go_sem, *])
    | ((with_reducible apply run_cond_t); (focus (simp only [go_sem, *]; done)))
    | ((with_reducible apply runO_alloc); (focus (simp only [go_sem, *]; rfl)); intro pb hpb; have hfb := Heap.ne_of_none hpb; (try simp only [Heap.set_none'] at hpb); (with_reducible apply runO_go); simp only [go_sem, *])
    | ((with_reducible apply runO_store); (focus (simp only [go_sem]; rfl)); (focus (simp only [go_sem, *]; rfl)); (focus (simp only [go_sem, *]; rfl)); (focus (simp only [go_sem, *]; done)); (focus (simp only [go_sem, *]; done)); (focus (simp only [go_sem, *]; done)); (with_reducible apply runO_go); simp only [go_sem, *, Heap.set_set])
    | ((with_reducible apply run_ret Try.func50 res50 (H' := H)); (focus (simp only [go_sem, *]; rfl)); (focus trivial); (focus (repeat (first | assumption | exact Heap.sub_refl _ | refine Heap.sub_congr ?_ | refine Heap.sub_set ?_ (by assumption) | refine Heap.sub_set2 ?_ (by first | assumption | (simp only [*]; done) | (simp only [Heap.set_none', ne_eq, *, not_false_eq_true, and_self]; done)))))))
      exact ⟨rfl, rfl⟩
  | true =>
    obtain ⟨k, rfl, hk⟩ := is_nat his
    have hkn : ¬ s.ts.length ≤ k := by omega
    have hk0 : ¬ (k : Int) < 0 := by omega
    cases hh : s.has (k : Int) with
    | false =>
      have he : s.err (k : Int) = 6 := by unfold St.err; rw [his, hh]; rfl
      obtain ⟨e1, e2⟩ := HS.out (by rw [he]; decide)
      have hn : s.nxt (k : Int) = ev0 := by unfold St.nxt; rw [hh]; rfl
      rw [hh, hn] at c2
      rw [he, e1, e2]
      repeat' (first
    | (with_reducible apply run_seq)
    | (with_reducible apply run_skip)
    | ((with_reducible apply run_go); simp only [go_sem, *])
    | ((with_reducible apply run_cond_t); (focus (simp only [go_sem, *]; done)))
    | ((with_reducible apply run_cond_f); (focus (simp only [go_sem, *]; done)))
    | ((with_reducible apply runO_alloc); (focus (simp only [go_sem, *]; rfl)); intro pb hpb; have hfb := Heap.ne_of_none hpb; (try simp only [Heap.set_none'] at hpb); (with_reducible apply runO_go); simp only [go_sem, *])
    | ((with_reducible apply runO_store); (focus (simp only [go_sem]; rfl)); (focus (simp only [go_sem, *]; rfl)); (focus (simp only [go_sem, *]; rfl)); (focus (simp only [go_sem, *]; done)); (focus (simp only [go_sem, *]; done)); (focus (simp only [go_sem, *]; done)); (with_reducible apply runO_go); simp only [go_sem, *, Heap.set_set])
    | ((with_reducible apply runO_callF known59); simp only [go_sem, *]; refine (c2 _ (by (repeat (first | assumption | exact Heap.sub_refl _ | refine Heap.sub_congr ?_ | refine Heap.sub_set ?_ (by assumption) | refine Heap.sub_set2 ?_ (by first | assumption | (simp only [*]; done) | (simp only [Heap.set_none', ne_eq, *, not_false_eq_true, and_self]; done)))); done)).use ?_; (with_reducible apply runO_go); simp only [go_sem, *])
    | ((with_reducible apply run_ret Try.func50 res50 (H' := H)); (focus (simp only [go_sem, *]; rfl)); (focus trivial); (focus (repeat (first | assumption | exact Heap.sub_refl _ | refine Heap.sub_congr ?_ | refine Heap.sub_set ?_ (by assumption) | refine Heap.sub_set2 ?_ (by first | assumption | (simp only [*]; done) | (simp only [Heap.set_none', ne_eq, *, not_false_eq_true, and_self]; done)))))))
      exact ⟨rfl, rfl⟩
    | true =>
      rw [hh] at c2
      cases hm : s.may (k : Int) with
      | false =>
        have he : s.err (k : Int) = 9 := by unfold St.err; rw [his, hh, hm]; rfl
        obtain ⟨e1, e2⟩ := HS.out (by rw [he]; decide)
        rw [hm] at c3
        rw [he, e1, e2]
        repeat' (first
    | (with_reducible apply run_seq)
    | (with_reducible apply run_skip)
    | ((with_reducible apply run_go); simp only [go_sem, *])
    | ((with_reducible apply run_cond_t); (focus (simp only [go_sem, *]; done)))
    | ((with_reducible apply run_cond_f); (focus (simp only [go_sem, *]; done)))
    | ((with_reducible apply runO_alloc); (focus (simp only [go_sem, *]; rfl)); intro pb hpb; have hfb := Heap.ne_of_none hpb; (try simp only [Heap.set_none'] at hpb); (with_reducible apply runO_go); simp only [go_sem, *])
    | ((with_reducible apply runO_store); (focus (simp only [go_sem]; rfl)); (focus (simp only [go_sem, *]; rfl)); (focus (simp only [go_sem, *]; rfl)); (focus (simp only [go_sem, *]; done)); (focus (simp only [go_sem, *]; done)); (focus (simp only [go_sem, *]; done)); (with_reducible apply runO_go); simp only [go_sem, *, Heap.set_set])
    | ((with_reducible apply runO_callF known59); simp only [go_sem, *]; refine (c2 _ (by (repeat (first | assumption | exact Heap.sub_refl _ | refine Heap.sub_congr ?_ | refine Heap.sub_set ?_ (by assumption) | refine Heap.sub_set2 ?_ (by first | assumption | (simp only [*]; done) | (simp only [Heap.set_none', ne_eq, *, not_false_eq_true, and_self]; done)))); done)).use ?_; (with_reducible apply runO_go); simp only [go_sem, *])
    | ((with_reducible apply runO_callF known42); simp only [go_sem, *]; refine (c3 _ (by (repeat (first | assumption | exact Heap.sub_refl _ | refine Heap.sub_congr ?_ | refine Heap.sub_set ?_ (by assumption) | refine Heap.sub_set2 ?_ (by first | assumption | (simp only [*]; done) | (simp only [Heap.set_none', ne_eq, *, not_false_eq_true, and_self]; done)))); done)).use ?_; (with_reducible apply runO_go); simp only [go_sem, *])
    | ((with_reducible apply run_ret Try.func50 res50 (H' := H)); (focus (simp only [go_sem, *]; rfl)); (focus trivial); (focus (repeat (first | assumption | exact Heap.sub_refl _ | refine Heap.sub_congr ?_ | refine Heap.sub_set ?_ (by assumption) | refine Heap.sub_set2 ?_ (by first | assumption | (simp only [*]; done) | (simp only [Heap.set_none', ne_eq, *, not_false_eq_true, and_self]; done)))))))
        exact ⟨rfl, rfl⟩
      | true =>
        have he : s.err (k : Int) = 0 := by unfold St.err; rw [his, hh, hm]; rfl
        have e2 : s.stE (k : Int) = s.nxt k := by unfold St.stE; rw [if_pos he]
        have e1 : s.stS (k : Int) = (s.tick k).deed k (s.ins k) := by unfold St.stS; rw [if_pos he]
        have e3 : s.nxt (k : Int) = s.evI k (s.ins k) := by unfold St.nxt; rw [hh]; rfl
        have hkd := evI_kd s k (s.ins k)
        rw [← e3] at hkd
        rw [hm] at c3
        rw [he, e1, e2]
        obtain ⟨hi, hpl, hpc0⟩ := HO.out.ins hh
        have hk2 : k < s.p.th.length := by rw [← HO.out.len]; exact hk
        have hio := hi
        have hk1 := hi.kd
        have hr := hi.r
        have hv : (s.ins (k : Int)).kd = 1 ∨ (s.ins (k : Int)).kd = 2 → (s.ins (k : Int)).x = 0 ∨ (s.ins (k : Int)).x = 1 ∨ (s.ins (k : Int)).x = 2 ∨ (s.ins (k : Int)).x = 3 := fun e => by have := hi.var e; have := hi.x0; omega
        have hmu := hi.mu
        obtain ⟨hf, hp⟩ := HO.out.tdk hk
        have htd : s.td (k : Int) = s.ts.getD k default := rfl
        have hcd : s.code (k : Int) = s.p.th.getD k [] := rfl
        have hin : s.ins (k : Int) = (s.code k).getD (s.td k).pc.toNat default := by unfold St.ins; rw [if_pos hh]
        rw [htd, hcd] at hin hpl
        rw [htd] at hf hp hpc0
        have w1 : IntKind.i64.wrap ((s.ts.getD k default).fu - 1) = (s.ts.getD k default).fu - 1 := wrapP (by omega) (by omega)
        have w2 : IntKind.i64.wrap ((s.ts.getD k default).pc + 1) = (s.ts.getD k default).pc + 1 := wrapP (by omega) (by omega)
        have FF := rowF s l hk
        have hpl2 : (s.ts.getD k default).pc < ((s.p.th.getD k []).length : Int) := by omega
        generalize hX : s.ts.getD k default = X at *
        generalize hCo : s.p.th.getD k [] = C at *
        have hT : s.tick (k : Int) = s.setTd k ⟨X.pc + 1, X.fu - 1, X.r0, X.r1⟩ := by unfold St.tick; rw [htd]
        have hk1' : k < (s.setTd (k : Int) ⟨X.pc, X.fu - 1, X.r0, X.r1⟩).ts.length := by show k < (s.ts.set k _).length; rw [List.length_set]; exact hk
        have F1 := rowF (s.setTd (k : Int) ⟨X.pc, X.fu - 1, X.r0, X.r1⟩) l hk1'
        have hX1 : (s.setTd (k : Int) ⟨X.pc, X.fu - 1, X.r0, X.r1⟩).ts.getD k default = ⟨X.pc, X.fu - 1, X.r0, X.r1⟩ := getD_set s.ts hk _
        rw [hX1] at F1
        have g1 := FF.p1 (X.fu - 1)
        have e1' : (tdsC (s.ts.set k ⟨X.pc, X.fu - 1, X.r0, X.r1⟩)).flatten ++ l.rest = rowM (s.setTd (k : Int) ⟨X.pc, X.fu - 1, X.r0, X.r1⟩) l := rfl
        rw [e1'] at g1
        have g2 := F1.p0 (X.pc + 1)
        have e2' : (tdsC ((s.setTd (k : Int) ⟨X.pc, X.fu - 1, X.r0, X.r1⟩).ts.set k ⟨X.pc + 1, X.fu - 1, X.r0, X.r1⟩)).flatten ++ l.rest = rowM (s.tick (k : Int)) l := by
          rw [hT]
          show (tdsC ((s.ts.set k _).set k _)).flatten ++ l.rest = (tdsC (s.ts.set k _)).flatten ++ l.rest
          rw [List.set_set]
        simp only at g2
        rw [e2'] at g2
        obtain ⟨q0, q1, q2, q3, p0, p1, p2, p3, m0, m1, m2, m3, n0, n1, n2, n3⟩ := FF
        have u0 := F1.q0
        have um := F1.m0
        have un := F1.n0
        simp only at u0
        have hk2' : k < (s.tick (k : Int)).ts.length := by unfold St.tick; rw [len_setTd]; exact hk
        have F2 := rowF (s.tick (k : Int)) l hk2'
        have hX2 : (s.tick (k : Int)).ts.getD k default = ⟨X.pc + 1, X.fu - 1, X.r0, X.r1⟩ := by rw [hT]; exact getD_set s.ts hk _
        rw [hX2] at F2
        have z2 := F2.q2
        have z3 := F2.q3
        have y0 := F2.p0
        have y2 := F2.p2
        have y3 := F2.p3
        have zm2 := F2.m2
        have zm3 := F2.m3
        have zn0 := F2.n0
        have zn2 := F2.n2
        have zn3 := F2.n3
        simp only at z2 z3 y0 y2 y3
        have hbT : stM (s.tick (k : Int)) l = stM s l := by rw [hT]; exact stM_td _ _ _ _
        have HA2 : Hid (∀ s' : St, stM s' l = stM s l → stR H l s' = H.set l.c (.cells (rowM s' l) 94)) := fun s' e => stH_row HH.out e
        have HTD : Hid ((s.tick (k : Int)).td k = ⟨X.pc + 1, X.fu - 1, X.r0, X.r1⟩) := hX2
        have HVAR : Hid (∀ x, (s.tick (k : Int)).var x = s.var x) := fun x => rfl
        have HHOL : Hid (∀ x, (s.tick (k : Int)).hol x = s.hol x) := fun x => rfl
        have HBT : Hid _ := hbT
        clear F1 F2 p0 p1 p2 p3 hbT e1' e2' hX1 hX2 hk1' hk2' htd hcd hT hf hp hm hh his he e1 e2 e3 hi HS
        generalize hR : rowM s l = R at *
        generalize hR1 : rowM (s.setTd (k : Int) ⟨X.pc, X.fu - 1, X.r0, X.r1⟩) l = R1 at *
        generalize hR2 : rowM (s.tick (k : Int)) l = R2 at *
        generalize s.nxt (k : Int) = e at *
        generalize hI : s.ins (k : Int) = i at *
        have hin' := hin.symm
        clear hin
        obtain ⟨ik, ir, ix, iq⟩ := i
        obtain ⟨ea, eb, ec, ed⟩ := e
        simp only at hk1 hr hv hmu hkd
        have HUN : Hid _ := un
        clear un
        have hir0 : 0 ≤ ir := by omega
        have hir1 : ir < 2 := by omega
        have hrg : R2.getD (k * 4 + 2 + ir.toNat) default = .v (.int .i64 ((⟨X.pc + 1, X.fu - 1, X.r0, X.r1⟩ : Td).reg ir)) := by
          rcases hr with rfl | rfl
          · exact z2
          · exact z3
        have hrp : ∀ n, R2.take (k * 4 + 2 + ir.toNat) ++ [D.v (.int .i64 n)] ++ R2.drop (k * 4 + 2 + ir.toNat + 1) = (tdsC ((s.tick (k : Int)).ts.set k ((⟨X.pc + 1, X.fu - 1, X.r0, X.r1⟩ : Td).setReg ir n))).flatten ++ l.rest := by
          rcases hr with rfl | rfl
          · exact y2
          · exact y3
        have hrm : k * 4 + 2 + ir.toNat < R2.length := by omega
        have hrn : k * 4 + 2 + ir.toNat + 1 ≤ R2.length := by omega
        clear z2 z3 y2 y3 zm2 zm3 zn2 zn3
        have HLT : Hid ((s.tick (k : Int)).ts.length = s.ts.length) := len_setTd _ _ _
        have HR2 : Hid _ := hR2
        have HKD : Hid _ := hkd
        have HV : Hid _ := hv
        have HMU : Hid _ := hmu
        have HRR : Hid _ := hr
        clear hkd hv hmu hr
        repeat' (first
    | (with_reducible apply run_seq)
    | (with_reducible apply run_skip)
    | ((with_reducible apply run_go); simp only [go_sem, *])
    | ((with_reducible apply run_cond_f); (focus (simp only [go_sem, *]; done)))
    | ((with_reducible apply runO_alloc); (focus (simp only [go_sem, *]; rfl)); intro pb hpb; have hfb := Heap.ne_of_none hpb; (try simp only [Heap.set_none'] at hpb); (with_reducible apply runO_go); simp only [go_sem, *]))
        generalize pb = p4 at *
        have hp4 := hpb
        clear hpb
        have n4b : p4 ≠ l.b := fun e => by rw [e, HH.out.hb] at hp4; cases hp4
        have n4b' : l.b ≠ p4 := fun e => n4b e.symm
        have n4c : p4 ≠ l.c := fun e => by rw [e, HH.out.hc] at hp4; cases hp4
        have n4c' : l.c ≠ p4 := fun e => n4c e.symm
        repeat' (first
    | (with_reducible apply run_seq)
    | (with_reducible apply run_skip)
    | ((with_reducible apply run_go); simp only [go_sem, *])
    | ((with_reducible apply run_cond_f); (focus (simp only [go_sem, *]; done)))
    | ((with_reducible apply runO_alloc); (focus (simp only [go_sem, *]; rfl)); intro pb hpb; have hfb := Heap.ne_of_none hpb; (try simp only [Heap.set_none'] at hpb); (with_reducible apply runO_go); simp only [go_sem, *])
    | ((with_reducible apply runO_store); (focus (simp only [go_sem]; rfl)); (focus (simp only [go_sem, *]; rfl)); (focus (simp only [go_sem, *]; rfl)); (focus (simp only [go_sem, *]; done)); (focus (simp only [go_sem, *]; done)); (focus (simp only [go_sem, *]; done)); (with_reducible apply runO_go); simp only [go_sem, *, Heap.set_set])
    | ((with_reducible apply runO_callF known59); simp only [go_sem, *]; refine (c2 _ (by (repeat (first | assumption | exact Heap.sub_refl _ | refine Heap.sub_congr ?_ | refine Heap.sub_set ?_ (by assumption) | refine Heap.sub_set2 ?_ (by first | assumption | (simp only [*]; done) | (simp only [Heap.set_none', ne_eq, *, not_false_eq_true, and_self]; done)))); done)).use ?_; (with_reducible apply runO_go); simp only [go_sem, *]))
        generalize pb = p6 at *
        obtain ⟨⟨h64, h64'⟩, hp6⟩ := hpb
        have n6b : p6 ≠ l.b := fun e => by rw [e, HH.out.hb] at hp6; cases hp6
        have n6b' : l.b ≠ p6 := fun e => n6b e.symm
        have n6c : p6 ≠ l.c := fun e => by rw [e, HH.out.hc] at hp6; cases hp6
        have n6c' : l.c ≠ p6 := fun e => n6c e.symm
        repeat' (first
    | (with_reducible apply run_seq)
    | (with_reducible apply run_skip)
    | ((with_reducible apply run_go); simp only [go_sem, *])
    | ((with_reducible apply run_drawGo Cl.zero Cl.zero_plain mixed); (focus kernel_rfl); simp only [go_sem, *])
    | ((with_reducible apply run_cond_f); (focus (simp only [go_sem, *]; done)))
    | ((with_reducible apply runD_alloc); (focus (simp only [go_sem, *]; rfl)); intro pb hpb; have hfb := Heap.ne_of_none hpb; (try simp only [Heap.set_none'] at hpb); (with_reducible first | apply runD_go Cl.zero_plain | apply runD_goC); simp only [go_sem, *])
    | ((with_reducible apply runO_store); (focus (simp only [go_sem]; rfl)); (focus (simp only [go_sem, *]; rfl)); (focus (simp only [go_sem, *]; rfl)); (focus (simp only [go_sem, *]; done)); (focus (simp only [go_sem, *]; done)); (focus (simp only [go_sem, *]; done)); (with_reducible apply runO_go); simp only [go_sem, *, Heap.set_set])
    | ((with_reducible apply runD_store); (focus (simp only [go_sem]; rfl)); (focus (simp only [go_sem, *]; rfl)); (focus (simp only [go_sem, *]; rfl)); (focus (simp only [go_sem, *]; done)); (focus (simp only [go_sem, *]; done)); (focus (simp only [go_sem, *]; done)); (focus (first | rfl | (simp only [go_sem, *]; done))); (with_reducible first | apply runD_go Cl.zero_plain | apply runD_goC); simp only [go_sem, *, Heap.set_set])
    | ((with_reducible apply runO_callF known42); simp only [go_sem, *]; refine (c3 _ (by (repeat (first | assumption | exact Heap.sub_refl _ | refine Heap.sub_congr ?_ | refine Heap.sub_set ?_ (by assumption) | refine Heap.sub_set2 ?_ (by first | assumption | (simp only [*]; done) | (simp only [Heap.set_none', ne_eq, *, not_false_eq_true, and_self]; done)))); done)).use ?_; (with_reducible apply runO_go); simp only [go_sem, *]))
        generalize pb = p9 at *
        obtain ⟨⟨h96, h96'⟩, ⟨h94, h94'⟩, hp9⟩ := hpb
        have n9b : p9 ≠ l.b := fun e => by rw [e, HH.out.hb] at hp9; cases hp9
        have n9b' : l.b ≠ p9 := fun e => n9b e.symm
        have n9c : p9 ≠ l.c := fun e => by rw [e, HH.out.hc] at hp9; cases hp9
        have n9c' : l.c ≠ p9 := fun e => n9c e.symm
        clear c2 c3
        have un := HUN.out
        have hkd := HKD.out
        obtain rfl | rfl | rfl | rfl | rfl | rfl | rfl | rfl : ik = 1 ∨ ik = 2 ∨ ik = 3 ∨ ik = 4 ∨ ik = 5 ∨ ik = 6 ∨ ik = 7 ∨ ik = 8 := by omega
        · have hk0 : eb = 2 := by rw [hkd]; rfl
          subst hk0
          clear hkd
          rcases HV.out (.inl rfl) with rfl | rfl | rfl | rfl
          · have hd : stR H l ((s.tick (k : Int)).deed k ⟨1, ir, 0, iq⟩) = H.set l.c (.cells ((tdsC ((s.tick (k : Int)).ts.set k ((⟨X.pc + 1, X.fu - 1, X.r0, X.r1⟩ : Td).setReg ir s.v0))).flatten ++ l.rest) 94) := by
              show stR H l ((s.tick (k : Int)).setTd k (((s.tick (k : Int)).td k).setReg ir ((s.tick (k : Int)).var 0))) = _
              rw [HTD.out, HA2.out _ ((stM_td _ _ _ _).trans HBT.out)]
              rfl
            rw [hd]
            clear hd
            repeat' (first
    | (with_reducible apply run_seq)
    | (with_reducible apply run_block)
    | (with_reducible apply run_inBlock)
    | ((with_reducible apply run_go); simp only [go_sem, *])
    | ((with_reducible apply run_drawGo Cl.zero Cl.zero_plain mixed); (focus kernel_rfl); simp only [go_sem, *])
    | ((with_reducible apply run_cond_t); (focus (simp only [go_sem, *]; done)))
    | ((with_reducible apply runO_store); (focus (simp only [go_sem]; rfl)); (focus (simp only [go_sem, *]; rfl)); (focus (simp only [go_sem, *]; rfl)); (focus (simp only [go_sem, *]; done)); (focus (simp only [go_sem, *]; done)); (focus (simp only [go_sem, *]; done)); (with_reducible apply runO_go); simp only [go_sem, *, Heap.set_set])
    | ((with_reducible apply runD_store); (focus (simp only [go_sem]; rfl)); (focus (simp only [go_sem, *]; rfl)); (focus (simp only [go_sem, *]; rfl)); (focus (simp only [go_sem, *]; done)); (focus (simp only [go_sem, *]; done)); (focus (simp only [go_sem, *]; done)); (focus (first | rfl | (simp only [go_sem, *]; done))); (with_reducible first | apply runD_go Cl.zero_plain | apply runD_goC); simp only [go_sem, *, Heap.set_set])
    | ((with_reducible apply run_ret Try.func50 res50 (H' := H.set l.c (.cells ((tdsC ((s.tick (k : Int)).ts.set k ((⟨X.pc + 1, X.fu - 1, X.r0, X.r1⟩ : Td).setReg ir s.v0))).flatten ++ l.rest) 94))); (focus (simp only [go_sem, *]; rfl)); (focus trivial); (focus (repeat (first | assumption | exact Heap.sub_refl _ | refine Heap.sub_congr ?_ | refine Heap.sub_set ?_ (by assumption) | refine Heap.sub_set2 ?_ (by first | assumption | (simp only [*]; done) | (simp only [Heap.set_none', ne_eq, *, not_false_eq_true, and_self]; done)))))))
            exact ⟨rfl, rfl⟩
          · have hd : stR H l ((s.tick (k : Int)).deed k ⟨1, ir, 1, iq⟩) = H.set l.c (.cells ((tdsC ((s.tick (k : Int)).ts.set k ((⟨X.pc + 1, X.fu - 1, X.r0, X.r1⟩ : Td).setReg ir s.v1))).flatten ++ l.rest) 94) := by
              show stR H l ((s.tick (k : Int)).setTd k (((s.tick (k : Int)).td k).setReg ir ((s.tick (k : Int)).var 1))) = _
              rw [HTD.out, HA2.out _ ((stM_td _ _ _ _).trans HBT.out)]
              rfl
            rw [hd]
            clear hd
            repeat' (first
    | (with_reducible apply run_seq)
    | (with_reducible apply run_block)
    | (with_reducible apply run_inBlock)
    | ((with_reducible apply run_go); simp only [go_sem, *])
    | ((with_reducible apply run_drawGo Cl.zero Cl.zero_plain mixed); (focus kernel_rfl); simp only [go_sem, *])
    | ((with_reducible apply run_cond_t); (focus (simp only [go_sem, *]; done)))
    | ((with_reducible apply runO_store); (focus (simp only [go_sem]; rfl)); (focus (simp only [go_sem, *]; rfl)); (focus (simp only [go_sem, *]; rfl)); (focus (simp only [go_sem, *]; done)); (focus (simp only [go_sem, *]; done)); (focus (simp only [go_sem, *]; done)); (with_reducible apply runO_go); simp only [go_sem, *, Heap.set_set])
    | ((with_reducible apply runD_store); (focus (simp only [go_sem]; rfl)); (focus (simp only [go_sem, *]; rfl)); (focus (simp only [go_sem, *]; rfl)); (focus (simp only [go_sem, *]; done)); (focus (simp only [go_sem, *]; done)); (focus (simp only [go_sem, *]; done)); (focus (first | rfl | (simp only [go_sem, *]; done))); (with_reducible first | apply runD_go Cl.zero_plain | apply runD_goC); simp only [go_sem, *, Heap.set_set])
    | ((with_reducible apply run_ret Try.func50 res50 (H' := H.set l.c (.cells ((tdsC ((s.tick (k : Int)).ts.set k ((⟨X.pc + 1, X.fu - 1, X.r0, X.r1⟩ : Td).setReg ir s.v1))).flatten ++ l.rest) 94))); (focus (simp only [go_sem, *]; rfl)); (focus trivial); (focus (repeat (first | assumption | exact Heap.sub_refl _ | refine Heap.sub_congr ?_ | refine Heap.sub_set ?_ (by assumption) | refine Heap.sub_set2 ?_ (by first | assumption | (simp only [*]; done) | (simp only [Heap.set_none', ne_eq, *, not_false_eq_true, and_self]; done)))))))
            exact ⟨rfl, rfl⟩
          · have hd : stR H l ((s.tick (k : Int)).deed k ⟨1, ir, 2, iq⟩) = H.set l.c (.cells ((tdsC ((s.tick (k : Int)).ts.set k ((⟨X.pc + 1, X.fu - 1, X.r0, X.r1⟩ : Td).setReg ir s.v2))).flatten ++ l.rest) 94) := by
              show stR H l ((s.tick (k : Int)).setTd k (((s.tick (k : Int)).td k).setReg ir ((s.tick (k : Int)).var 2))) = _
              rw [HTD.out, HA2.out _ ((stM_td _ _ _ _).trans HBT.out)]
              rfl
            rw [hd]
            clear hd
            repeat' (first
    | (with_reducible apply run_seq)
    | (with_reducible apply run_block)
    | (with_reducible apply run_inBlock)
    | ((with_reducible apply run_go); simp only [go_sem, *])
    | ((with_reducible apply run_drawGo Cl.zero Cl.zero_plain mixed); (focus kernel_rfl); simp only [go_sem, *])
    | ((with_reducible apply run_cond_t); (focus (simp only [go_sem, *]; done)))
    | ((with_reducible apply runO_store); (focus (simp only [go_sem]; rfl)); (focus (simp only [go_sem, *]; rfl)); (focus (simp only [go_sem, *]; rfl)); (focus (simp only [go_sem, *]; done)); (focus (simp only [go_sem, *]; done)); (focus (simp only [go_sem, *]; done)); (with_reducible apply runO_go); simp only [go_sem, *, Heap.set_set])
    | ((with_reducible apply runD_store); (focus (simp only [go_sem]; rfl)); (focus (simp only [go_sem, *]; rfl)); (focus (simp only [go_sem, *]; rfl)); (focus (simp only [go_sem, *]; done)); (focus (simp only [go_sem, *]; done)); (focus (simp only [go_sem, *]; done)); (focus (first | rfl | (simp only [go_sem, *]; done))); (with_reducible first | apply runD_go Cl.zero_plain | apply runD_goC); simp only [go_sem, *, Heap.set_set])
    | ((with_reducible apply run_ret Try.func50 res50 (H' := H.set l.c (.cells ((tdsC ((s.tick (k : Int)).ts.set k ((⟨X.pc + 1, X.fu - 1, X.r0, X.r1⟩ : Td).setReg ir s.v2))).flatten ++ l.rest) 94))); (focus (simp only [go_sem, *]; rfl)); (focus trivial); (focus (repeat (first | assumption | exact Heap.sub_refl _ | refine Heap.sub_congr ?_ | refine Heap.sub_set ?_ (by assumption) | refine Heap.sub_set2 ?_ (by first | assumption | (simp only [*]; done) | (simp only [Heap.set_none', ne_eq, *, not_false_eq_true, and_self]; done)))))))
            exact ⟨rfl, rfl⟩
          · have hd : stR H l ((s.tick (k : Int)).deed k ⟨1, ir, 3, iq⟩) = H.set l.c (.cells ((tdsC ((s.tick (k : Int)).ts.set k ((⟨X.pc + 1, X.fu - 1, X.r0, X.r1⟩ : Td).setReg ir s.v3))).flatten ++ l.rest) 94) := by
              show stR H l ((s.tick (k : Int)).setTd k (((s.tick (k : Int)).td k).setReg ir ((s.tick (k : Int)).var 3))) = _
              rw [HTD.out, HA2.out _ ((stM_td _ _ _ _).trans HBT.out)]
              rfl
            rw [hd]
            clear hd
            repeat' (first
    | (with_reducible apply run_seq)
    | (with_reducible apply run_block)
    | (with_reducible apply run_inBlock)
    | ((with_reducible apply run_go); simp only [go_sem, *])
    | ((with_reducible apply run_drawGo Cl.zero Cl.zero_plain mixed); (focus kernel_rfl); simp only [go_sem, *])
    | ((with_reducible apply run_cond_t); (focus (simp only [go_sem, *]; done)))
    | ((with_reducible apply runO_store); (focus (simp only [go_sem]; rfl)); (focus (simp only [go_sem, *]; rfl)); (focus (simp only [go_sem, *]; rfl)); (focus (simp only [go_sem, *]; done)); (focus (simp only [go_sem, *]; done)); (focus (simp only [go_sem, *]; done)); (with_reducible apply runO_go); simp only [go_sem, *, Heap.set_set])
    | ((with_reducible apply runD_store); (focus (simp only [go_sem]; rfl)); (focus (simp only [go_sem, *]; rfl)); (focus (simp only [go_sem, *]; rfl)); (focus (simp only [go_sem, *]; done)); (focus (simp only [go_sem, *]; done)); (focus (simp only [go_sem, *]; done)); (focus (first | rfl | (simp only [go_sem, *]; done))); (with_reducible first | apply runD_go Cl.zero_plain | apply runD_goC); simp only [go_sem, *, Heap.set_set])
    | ((with_reducible apply run_ret Try.func50 res50 (H' := H.set l.c (.cells ((tdsC ((s.tick (k : Int)).ts.set k ((⟨X.pc + 1, X.fu - 1, X.r0, X.r1⟩ : Td).setReg ir s.v3))).flatten ++ l.rest) 94))); (focus (simp only [go_sem, *]; rfl)); (focus trivial); (focus (repeat (first | assumption | exact Heap.sub_refl _ | refine Heap.sub_congr ?_ | refine Heap.sub_set ?_ (by assumption) | refine Heap.sub_set2 ?_ (by first | assumption | (simp only [*]; done) | (simp only [Heap.set_none', ne_eq, *, not_false_eq_true, and_self]; done)))))))
            exact ⟨rfl, rfl⟩
        · have hk0 : eb = 3 := by rw [hkd]; rfl
          subst hk0
          clear hkd
          rcases HV.out (.inr rfl) with rfl | rfl | rfl | rfl
          · have hd : stR H l ((s.tick (k : Int)).deed k ⟨2, ir, 0, iq⟩) = (H.set l.c (.cells R2 94)).set l.b (.cells [.v (.int .i64 s.p.vs), .v (.int .i64 s.p.ms), .list (thsC s.p.th), .v (.slice (some ⟨l.c, 0, none⟩) s.ts.length l.cap), .v (.int .i64 ((⟨X.pc + 1, X.fu - 1, X.r0, X.r1⟩ : Td).reg ir)), .v (.int .i64 s.v1), .v (.int .i64 s.v2), .v (.int .i64 s.v3), .v (.int .i64 s.h0), .v (.int .i64 s.h1)] 91) := by
              show stR H l ((s.tick (k : Int)).setVar 0 (((s.tick (k : Int)).td k).reg ir)) = _
              rw [HTD.out]
              unfold stR stH
              rw [rowM_var, HR2.out]
              show Heap.set _ _ (.cells [.v (.int .i64 s.p.vs), .v (.int .i64 s.p.ms), .list (thsC s.p.th), .v (.slice (some ⟨l.c, 0, none⟩) (s.tick (k : Int)).ts.length l.cap), .v (.int .i64 ((⟨X.pc + 1, X.fu - 1, X.r0, X.r1⟩ : Td).reg ir)), .v (.int .i64 s.v1), .v (.int .i64 s.v2), .v (.int .i64 s.v3), .v (.int .i64 s.h0), .v (.int .i64 s.h1)] _) = _
              rw [HLT.out]
            rw [hd]
            clear hd
            repeat' (first
    | (with_reducible apply run_seq)
    | (with_reducible apply run_block)
    | (with_reducible apply run_inBlock)
    | ((with_reducible apply run_go); simp only [go_sem, *])
    | ((with_reducible apply run_drawGo Cl.zero Cl.zero_plain mixed); (focus kernel_rfl); simp only [go_sem, *])
    | ((with_reducible apply run_cond_t); (focus (simp only [go_sem, *]; done)))
    | ((with_reducible apply run_cond_f); (focus (simp only [go_sem, *]; done)))
    | ((with_reducible apply runO_store); (focus (simp only [go_sem]; rfl)); (focus (simp only [go_sem, *]; rfl)); (focus (simp only [go_sem, *]; rfl)); (focus (simp only [go_sem, *]; done)); (focus (simp only [go_sem, *]; done)); (focus (simp only [go_sem, *]; done)); (with_reducible apply runO_go); simp only [go_sem, *, Heap.set_set])
    | ((with_reducible apply runD_store); (focus (simp only [go_sem]; rfl)); (focus (simp only [go_sem, *]; rfl)); (focus (simp only [go_sem, *]; rfl)); (focus (simp only [go_sem, *]; done)); (focus (simp only [go_sem, *]; done)); (focus (simp only [go_sem, *]; done)); (focus (first | rfl | (simp only [go_sem, *]; done))); (with_reducible first | apply runD_go Cl.zero_plain | apply runD_goC); simp only [go_sem, *, Heap.set_set])
    | ((with_reducible apply run_ret Try.func50 res50 (H' := (H.set l.c (.cells R2 94)).set l.b (.cells [.v (.int .i64 s.p.vs), .v (.int .i64 s.p.ms), .list (thsC s.p.th), .v (.slice (some ⟨l.c, 0, none⟩) s.ts.length l.cap), .v (.int .i64 ((⟨X.pc + 1, X.fu - 1, X.r0, X.r1⟩ : Td).reg ir)), .v (.int .i64 s.v1), .v (.int .i64 s.v2), .v (.int .i64 s.v3), .v (.int .i64 s.h0), .v (.int .i64 s.h1)] 91))); (focus (simp only [go_sem, *]; rfl)); (focus trivial); (focus (repeat (first | assumption | exact Heap.sub_refl _ | refine Heap.sub_congr ?_ | refine Heap.sub_set ?_ (by assumption) | refine Heap.sub_set2 ?_ (by first | assumption | (simp only [*]; done) | (simp only [Heap.set_none', ne_eq, *, not_false_eq_true, and_self]; done)))))))
            exact ⟨rfl, rfl⟩
          · have hd : stR H l ((s.tick (k : Int)).deed k ⟨2, ir, 1, iq⟩) = (H.set l.c (.cells R2 94)).set l.b (.cells [.v (.int .i64 s.p.vs), .v (.int .i64 s.p.ms), .list (thsC s.p.th), .v (.slice (some ⟨l.c, 0, none⟩) s.ts.length l.cap), .v (.int .i64 s.v0), .v (.int .i64 ((⟨X.pc + 1, X.fu - 1, X.r0, X.r1⟩ : Td).reg ir)), .v (.int .i64 s.v2), .v (.int .i64 s.v3), .v (.int .i64 s.h0), .v (.int .i64 s.h1)] 91) := by
              show stR H l ((s.tick (k : Int)).setVar 1 (((s.tick (k : Int)).td k).reg ir)) = _
              rw [HTD.out]
              unfold stR stH
              rw [rowM_var, HR2.out]
              show Heap.set _ _ (.cells [.v (.int .i64 s.p.vs), .v (.int .i64 s.p.ms), .list (thsC s.p.th), .v (.slice (some ⟨l.c, 0, none⟩) (s.tick (k : Int)).ts.length l.cap), .v (.int .i64 s.v0), .v (.int .i64 ((⟨X.pc + 1, X.fu - 1, X.r0, X.r1⟩ : Td).reg ir)), .v (.int .i64 s.v2), .v (.int .i64 s.v3), .v (.int .i64 s.h0), .v (.int .i64 s.h1)] _) = _
              rw [HLT.out]
            rw [hd]
            clear hd
            repeat' (first
    | (with_reducible apply run_seq)
    | (with_reducible apply run_block)
    | (with_reducible apply run_inBlock)
    | ((with_reducible apply run_go); simp only [go_sem, *])
    | ((with_reducible apply run_drawGo Cl.zero Cl.zero_plain mixed); (focus kernel_rfl); simp only [go_sem, *])
    | ((with_reducible apply run_cond_t); (focus (simp only [go_sem, *]; done)))
    | ((with_reducible apply run_cond_f); (focus (simp only [go_sem, *]; done)))
    | ((with_reducible apply runO_store); (focus (simp only [go_sem]; rfl)); (focus (simp only [go_sem, *]; rfl)); (focus (simp only [go_sem, *]; rfl)); (focus (simp only [go_sem, *]; done)); (focus (simp only [go_sem, *]; done)); (focus (simp only [go_sem, *]; done)); (with_reducible apply runO_go); simp only [go_sem, *, Heap.set_set])
    | ((with_reducible apply runD_store); (focus (simp only [go_sem]; rfl)); (focus (simp only [go_sem, *]; rfl)); (focus (simp only [go_sem, *]; rfl)); (focus (simp only [go_sem, *]; done)); (focus (simp only [go_sem, *]; done)); (focus (simp only [go_sem, *]; done)); (focus (first | rfl | (simp only [go_sem, *]; done))); (with_reducible first | apply runD_go Cl.zero_plain | apply runD_goC); simp only [go_sem, *, Heap.set_set])
    | ((with_reducible apply run_ret Try.func50 res50 (H' := (H.set l.c (.cells R2 94)).set l.b (.cells [.v (.int .i64 s.p.vs), .v (.int .i64 s.p.ms), .list (thsC s.p.th), .v (.slice (some ⟨l.c, 0, none⟩) s.ts.length l.cap), .v (.int .i64 s.v0), .v (.int .i64 ((⟨X.pc + 1, X.fu - 1, X.r0, X.r1⟩ : Td).reg ir)), .v (.int .i64 s.v2), .v (.int .i64 s.v3), .v (.int .i64 s.h0), .v (.int .i64 s.h1)] 91))); (focus (simp only [go_sem, *]; rfl)); (focus trivial); (focus (repeat (first | assumption | exact Heap.sub_refl _ | refine Heap.sub_congr ?_ | refine Heap.sub_set ?_ (by assumption) | refine Heap.sub_set2 ?_ (by first | assumption | (simp only [*]; done) | (simp only [Heap.set_none', ne_eq, *, not_false_eq_true, and_self]; done)))))))
            exact ⟨rfl, rfl⟩
          · have hd : stR H l ((s.tick (k : Int)).deed k ⟨2, ir, 2, iq⟩) = (H.set l.c (.cells R2 94)).set l.b (.cells [.v (.int .i64 s.p.vs), .v (.int .i64 s.p.ms), .list (thsC s.p.th), .v (.slice (some ⟨l.c, 0, none⟩) s.ts.length l.cap), .v (.int .i64 s.v0), .v (.int .i64 s.v1), .v (.int .i64 ((⟨X.pc + 1, X.fu - 1, X.r0, X.r1⟩ : Td).reg ir)), .v (.int .i64 s.v3), .v (.int .i64 s.h0), .v (.int .i64 s.h1)] 91) := by
              show stR H l ((s.tick (k : Int)).setVar 2 (((s.tick (k : Int)).td k).reg ir)) = _
              rw [HTD.out]
              unfold stR stH
              rw [rowM_var, HR2.out]
              show Heap.set _ _ (.cells [.v (.int .i64 s.p.vs), .v (.int .i64 s.p.ms), .list (thsC s.p.th), .v (.slice (some ⟨l.c, 0, none⟩) (s.tick (k : Int)).ts.length l.cap), .v (.int .i64 s.v0), .v (.int .i64 s.v1), .v (.int .i64 ((⟨X.pc + 1, X.fu - 1, X.r0, X.r1⟩ : Td).reg ir)), .v (.int .i64 s.v3), .v (.int .i64 s.h0), .v (.int .i64 s.h1)] _) = _
              rw [HLT.out]
            rw [hd]
            clear hd
            repeat' (first
    | (with_reducible apply run_seq)
    | (with_reducible apply run_block)
    | (with_reducible apply run_inBlock)
    | ((with_reducible apply run_go); simp only [go_sem, *])
    | ((with_reducible apply run_drawGo Cl.zero Cl.zero_plain mixed); (focus kernel_rfl); simp only [go_sem, *])
    | ((with_reducible apply run_cond_t); (focus (simp only [go_sem, *]; done)))
    | ((with_reducible apply run_cond_f); (focus (simp only [go_sem, *]; done)))
    | ((with_reducible apply runO_store); (focus (simp only [go_sem]; rfl)); (focus (simp only [go_sem, *]; rfl)); (focus (simp only [go_sem, *]; rfl)); (focus (simp only [go_sem, *]; done)); (focus (simp only [go_sem, *]; done)); (focus (simp only [go_sem, *]; done)); (with_reducible apply runO_go); simp only [go_sem, *, Heap.set_set])
    | ((with_reducible apply runD_store); (focus (simp only [go_sem]; rfl)); (focus (simp only [go_sem, *]; rfl)); (focus (simp only [go_sem, *]; rfl)); (focus (simp only [go_sem, *]; done)); (focus (simp only [go_sem, *]; done)); (focus (simp only [go_sem, *]; done)); (focus (first | rfl | (simp only [go_sem, *]; done))); (with_reducible first | apply runD_go Cl.zero_plain | apply runD_goC); simp only [go_sem, *, Heap.set_set])
    | ((with_reducible apply run_ret Try.func50 res50 (H' := (H.set l.c (.cells R2 94)).set l.b (.cells [.v (.int .i64 s.p.vs), .v (.int .i64 s.p.ms), .list (thsC s.p.th), .v (.slice (some ⟨l.c, 0, none⟩) s.ts.length l.cap), .v (.int .i64 s.v0), .v (.int .i64 s.v1), .v (.int .i64 ((⟨X.pc + 1, X.fu - 1, X.r0, X.r1⟩ : Td).reg ir)), .v (.int .i64 s.v3), .v (.int .i64 s.h0), .v (.int .i64 s.h1)] 91))); (focus (simp only [go_sem, *]; rfl)); (focus trivial); (focus (repeat (first | assumption | exact Heap.sub_refl _ | refine Heap.sub_congr ?_ | refine Heap.sub_set ?_ (by assumption) | refine Heap.sub_set2 ?_ (by first | assumption | (simp only [*]; done) | (simp only [Heap.set_none', ne_eq, *, not_false_eq_true, and_self]; done)))))))
            exact ⟨rfl, rfl⟩
          · have hd : stR H l ((s.tick (k : Int)).deed k ⟨2, ir, 3, iq⟩) = (H.set l.c (.cells R2 94)).set l.b (.cells [.v (.int .i64 s.p.vs), .v (.int .i64 s.p.ms), .list (thsC s.p.th), .v (.slice (some ⟨l.c, 0, none⟩) s.ts.length l.cap), .v (.int .i64 s.v0), .v (.int .i64 s.v1), .v (.int .i64 s.v2), .v (.int .i64 ((⟨X.pc + 1, X.fu - 1, X.r0, X.r1⟩ : Td).reg ir)), .v (.int .i64 s.h0), .v (.int .i64 s.h1)] 91) := by
              show stR H l ((s.tick (k : Int)).setVar 3 (((s.tick (k : Int)).td k).reg ir)) = _
              rw [HTD.out]
              unfold stR stH
              rw [rowM_var, HR2.out]
              show Heap.set _ _ (.cells [.v (.int .i64 s.p.vs), .v (.int .i64 s.p.ms), .list (thsC s.p.th), .v (.slice (some ⟨l.c, 0, none⟩) (s.tick (k : Int)).ts.length l.cap), .v (.int .i64 s.v0), .v (.int .i64 s.v1), .v (.int .i64 s.v2), .v (.int .i64 ((⟨X.pc + 1, X.fu - 1, X.r0, X.r1⟩ : Td).reg ir)), .v (.int .i64 s.h0), .v (.int .i64 s.h1)] _) = _
              rw [HLT.out]
            rw [hd]
            clear hd
            repeat' (first
    | (with_reducible apply run_seq)
    | (with_reducible apply run_block)
    | (with_reducible apply run_inBlock)
    | ((with_reducible apply run_go); simp only [go_sem, *])
    | ((with_reducible apply run_drawGo Cl.zero Cl.zero_plain mixed); (focus kernel_rfl); simp only [go_sem, *])
    | ((with_reducible apply run_cond_t); (focus (simp only [go_sem, *]; done)))
    | ((with_reducible apply run_cond_f); (focus (simp only [go_sem, *]; done)))
    | ((with_reducible apply runO_store); (focus (simp only [go_sem]; rfl)); (focus (simp only [go_sem, *]; rfl)); (focus (simp only [go_sem, *]; rfl)); (focus (simp only [go_sem, *]; done)); (focus (simp only [go_sem, *]; done)); (focus (simp only [go_sem, *]; done)); (with_reducible apply runO_go); simp only [go_sem, *, Heap.set_set])
    | ((with_reducible apply runD_store); (focus (simp only [go_sem]; rfl)); (focus (simp only [go_sem, *]; rfl)); (focus (simp only [go_sem, *]; rfl)); (focus (simp only [go_sem, *]; done)); (focus (simp only [go_sem, *]; done)); (focus (simp only [go_sem, *]; done)); (focus (first | rfl | (simp only [go_sem, *]; done))); (with_reducible first | apply runD_go Cl.zero_plain | apply runD_goC); simp only [go_sem, *, Heap.set_set])
    | ((with_reducible apply run_ret Try.func50 res50 (H' := (H.set l.c (.cells R2 94)).set l.b (.cells [.v (.int .i64 s.p.vs), .v (.int .i64 s.p.ms), .list (thsC s.p.th), .v (.slice (some ⟨l.c, 0, none⟩) s.ts.length l.cap), .v (.int .i64 s.v0), .v (.int .i64 s.v1), .v (.int .i64 s.v2), .v (.int .i64 ((⟨X.pc + 1, X.fu - 1, X.r0, X.r1⟩ : Td).reg ir)), .v (.int .i64 s.h0), .v (.int .i64 s.h1)] 91))); (focus (simp only [go_sem, *]; rfl)); (focus trivial); (focus (repeat (first | assumption | exact Heap.sub_refl _ | refine Heap.sub_congr ?_ | refine Heap.sub_set ?_ (by assumption) | refine Heap.sub_set2 ?_ (by first | assumption | (simp only [*]; done) | (simp only [Heap.set_none', ne_eq, *, not_false_eq_true, and_self]; done)))))))
            exact ⟨rfl, rfl⟩
        · have hk0 : eb = 1 := by rw [hkd]; rfl
          subst hk0
          clear hkd
          have hd : stR H l ((s.tick (k : Int)).deed k ⟨3, ir, ix, iq⟩) = H.set l.c (.cells ((tdsC ((s.tick (k : Int)).ts.set k ((⟨X.pc + 1, X.fu - 1, X.r0, X.r1⟩ : Td).setReg ir iq))).flatten ++ l.rest) 94) := by
            show stR H l ((s.tick (k : Int)).setTd k (((s.tick (k : Int)).td k).setReg ir iq)) = _
            rw [HTD.out, HA2.out _ ((stM_td _ _ _ _).trans HBT.out)]
            rfl
          rw [hd]
          clear hd
          repeat' (first
    | (with_reducible apply run_seq)
    | (with_reducible apply run_block)
    | (with_reducible apply run_inBlock)
    | ((with_reducible apply run_go); simp only [go_sem, *])
    | ((with_reducible apply run_drawGo Cl.zero Cl.zero_plain mixed); (focus kernel_rfl); simp only [go_sem, *])
    | ((with_reducible apply run_cond_t); (focus (simp only [go_sem, *]; done)))
    | ((with_reducible apply run_cond_f); (focus (simp only [go_sem, *]; done)))
    | ((with_reducible apply runO_store); (focus (simp only [go_sem]; rfl)); (focus (simp only [go_sem, *]; rfl)); (focus (simp only [go_sem, *]; rfl)); (focus (simp only [go_sem, *]; done)); (focus (simp only [go_sem, *]; done)); (focus (simp only [go_sem, *]; done)); (with_reducible apply runO_go); simp only [go_sem, *, Heap.set_set])
    | ((with_reducible apply runD_store); (focus (simp only [go_sem]; rfl)); (focus (simp only [go_sem, *]; rfl)); (focus (simp only [go_sem, *]; rfl)); (focus (simp only [go_sem, *]; done)); (focus (simp only [go_sem, *]; done)); (focus (simp only [go_sem, *]; done)); (focus (first | rfl | (simp only [go_sem, *]; done))); (with_reducible first | apply runD_go Cl.zero_plain | apply runD_goC); simp only [go_sem, *, Heap.set_set])
    | ((with_reducible apply run_ret Try.func50 res50 (H' := H.set l.c (.cells ((tdsC ((s.tick (k : Int)).ts.set k ((⟨X.pc + 1, X.fu - 1, X.r0, X.r1⟩ : Td).setReg ir iq))).flatten ++ l.rest) 94))); (focus (simp only [go_sem, *]; rfl)); (focus trivial); (focus (repeat (first | assumption | exact Heap.sub_refl _ | refine Heap.sub_congr ?_ | refine Heap.sub_set ?_ (by assumption) | refine Heap.sub_set2 ?_ (by first | assumption | (simp only [*]; done) | (simp only [Heap.set_none', ne_eq, *, not_false_eq_true, and_self]; done)))))))
          exact ⟨rfl, rfl⟩
        · have hk0 : eb = 1 := by rw [hkd]; rfl
          subst hk0
          clear hkd
          have hd : stR H l ((s.tick (k : Int)).deed k ⟨4, ir, ix, iq⟩) = H.set l.c (.cells ((tdsC ((s.tick (k : Int)).ts.set k ((⟨X.pc + 1, X.fu - 1, X.r0, X.r1⟩ : Td).setReg ir (IntKind.i64.wrap ((⟨X.pc + 1, X.fu - 1, X.r0, X.r1⟩ : Td).reg ir + iq))))).flatten ++ l.rest) 94) := by
            show stR H l ((s.tick (k : Int)).setTd k (((s.tick (k : Int)).td k).setReg ir (IntKind.i64.wrap (((s.tick (k : Int)).td k).reg ir + iq)))) = _
            rw [HTD.out, HA2.out _ ((stM_td _ _ _ _).trans HBT.out)]
            rfl
          rw [hd]
          clear hd
          repeat' (first
    | (with_reducible apply run_seq)
    | (with_reducible apply run_block)
    | (with_reducible apply run_inBlock)
    | ((with_reducible apply run_go); simp only [go_sem, *])
    | ((with_reducible apply run_drawGo Cl.zero Cl.zero_plain mixed); (focus kernel_rfl); simp only [go_sem, *])
    | ((with_reducible apply run_cond_t); (focus (simp only [go_sem, *]; done)))
    | ((with_reducible apply run_cond_f); (focus (simp only [go_sem, *]; done)))
    | ((with_reducible apply runO_store); (focus (simp only [go_sem]; rfl)); (focus (simp only [go_sem, *]; rfl)); (focus (simp only [go_sem, *]; rfl)); (focus (simp only [go_sem, *]; done)); (focus (simp only [go_sem, *]; done)); (focus (simp only [go_sem, *]; done)); (with_reducible apply runO_go); simp only [go_sem, *, Heap.set_set])
    | ((with_reducible apply runD_store); (focus (simp only [go_sem]; rfl)); (focus (simp only [go_sem, *]; rfl)); (focus (simp only [go_sem, *]; rfl)); (focus (simp only [go_sem, *]; done)); (focus (simp only [go_sem, *]; done)); (focus (simp only [go_sem, *]; done)); (focus (first | rfl | (simp only [go_sem, *]; done))); (with_reducible first | apply runD_go Cl.zero_plain | apply runD_goC); simp only [go_sem, *, Heap.set_set])
    | ((with_reducible apply run_ret Try.func50 res50 (H' := H.set l.c (.cells ((tdsC ((s.tick (k : Int)).ts.set k ((⟨X.pc + 1, X.fu - 1, X.r0, X.r1⟩ : Td).setReg ir (IntKind.i64.wrap ((⟨X.pc + 1, X.fu - 1, X.r0, X.r1⟩ : Td).reg ir + iq))))).flatten ++ l.rest) 94))); (focus (simp only [go_sem, *]; rfl)); (focus trivial); (focus (repeat (first | assumption | exact Heap.sub_refl _ | refine Heap.sub_congr ?_ | refine Heap.sub_set ?_ (by assumption) | refine Heap.sub_set2 ?_ (by first | assumption | (simp only [*]; done) | (simp only [Heap.set_none', ne_eq, *, not_false_eq_true, and_self]; done)))))))
          exact ⟨rfl, rfl⟩
        · have hk0 : eb = 4 := by rw [hkd]; rfl
          subst hk0
          clear hkd
          rcases HMU.out (.inl rfl) with rfl | rfl
          · have hd : stR H l ((s.tick (k : Int)).deed k ⟨5, ir, 0, iq⟩) = (H.set l.c (.cells R2 94)).set l.b (.cells [.v (.int .i64 s.p.vs), .v (.int .i64 s.p.ms), .list (thsC s.p.th), .v (.slice (some ⟨l.c, 0, none⟩) s.ts.length l.cap), .v (.int .i64 s.v0), .v (.int .i64 s.v1), .v (.int .i64 s.v2), .v (.int .i64 s.v3), .v (.int .i64 (k : Int)), .v (.int .i64 s.h1)] 91) := by
              show stR H l ((s.tick (k : Int)).setHol 0 k) = _
              unfold stR stH
              rw [rowM_hol, HR2.out]
              show Heap.set _ _ (.cells [.v (.int .i64 s.p.vs), .v (.int .i64 s.p.ms), .list (thsC s.p.th), .v (.slice (some ⟨l.c, 0, none⟩) (s.tick (k : Int)).ts.length l.cap), .v (.int .i64 s.v0), .v (.int .i64 s.v1), .v (.int .i64 s.v2), .v (.int .i64 s.v3), .v (.int .i64 (k : Int)), .v (.int .i64 s.h1)] _) = _
              rw [HLT.out]
            rw [hd]
            clear hd
            repeat' (first
    | (with_reducible apply run_seq)
    | (with_reducible apply run_block)
    | (with_reducible apply run_inBlock)
    | ((with_reducible apply run_go); simp only [go_sem, *])
    | ((with_reducible apply run_drawGo Cl.zero Cl.zero_plain mixed); (focus kernel_rfl); simp only [go_sem, *])
    | ((with_reducible apply run_cond_t); (focus (simp only [go_sem, *]; done)))
    | ((with_reducible apply run_cond_f); (focus (simp only [go_sem, *]; done)))
    | ((with_reducible apply runO_store); (focus (simp only [go_sem]; rfl)); (focus (simp only [go_sem, *]; rfl)); (focus (simp only [go_sem, *]; rfl)); (focus (simp only [go_sem, *]; done)); (focus (simp only [go_sem, *]; done)); (focus (simp only [go_sem, *]; done)); (with_reducible apply runO_go); simp only [go_sem, *, Heap.set_set])
    | ((with_reducible apply runD_store); (focus (simp only [go_sem]; rfl)); (focus (simp only [go_sem, *]; rfl)); (focus (simp only [go_sem, *]; rfl)); (focus (simp only [go_sem, *]; done)); (focus (simp only [go_sem, *]; done)); (focus (simp only [go_sem, *]; done)); (focus (first | rfl | (simp only [go_sem, *]; done))); (with_reducible first | apply runD_go Cl.zero_plain | apply runD_goC); simp only [go_sem, *, Heap.set_set])
    | ((with_reducible apply run_ret Try.func50 res50 (H' := (H.set l.c (.cells R2 94)).set l.b (.cells [.v (.int .i64 s.p.vs), .v (.int .i64 s.p.ms), .list (thsC s.p.th), .v (.slice (some ⟨l.c, 0, none⟩) s.ts.length l.cap), .v (.int .i64 s.v0), .v (.int .i64 s.v1), .v (.int .i64 s.v2), .v (.int .i64 s.v3), .v (.int .i64 (k : Int)), .v (.int .i64 s.h1)] 91))); (focus (simp only [go_sem, *]; rfl)); (focus trivial); (focus (repeat (first | assumption | exact Heap.sub_refl _ | refine Heap.sub_congr ?_ | refine Heap.sub_set ?_ (by assumption) | refine Heap.sub_set2 ?_ (by first | assumption | (simp only [*]; done) | (simp only [Heap.set_none', ne_eq, *, not_false_eq_true, and_self]; done)))))))
            exact ⟨rfl, rfl⟩
          · have hd : stR H l ((s.tick (k : Int)).deed k ⟨5, ir, 1, iq⟩) = (H.set l.c (.cells R2 94)).set l.b (.cells [.v (.int .i64 s.p.vs), .v (.int .i64 s.p.ms), .list (thsC s.p.th), .v (.slice (some ⟨l.c, 0, none⟩) s.ts.length l.cap), .v (.int .i64 s.v0), .v (.int .i64 s.v1), .v (.int .i64 s.v2), .v (.int .i64 s.v3), .v (.int .i64 s.h0), .v (.int .i64 (k : Int))] 91) := by
              show stR H l ((s.tick (k : Int)).setHol 1 k) = _
              unfold stR stH
              rw [rowM_hol, HR2.out]
              show Heap.set _ _ (.cells [.v (.int .i64 s.p.vs), .v (.int .i64 s.p.ms), .list (thsC s.p.th), .v (.slice (some ⟨l.c, 0, none⟩) (s.tick (k : Int)).ts.length l.cap), .v (.int .i64 s.v0), .v (.int .i64 s.v1), .v (.int .i64 s.v2), .v (.int .i64 s.v3), .v (.int .i64 s.h0), .v (.int .i64 (k : Int))] _) = _
              rw [HLT.out]
            rw [hd]
            clear hd
            repeat' (first
    | (with_reducible apply run_seq)
    | (with_reducible apply run_block)
    | (with_reducible apply run_inBlock)
    | ((with_reducible apply run_go); simp only [go_sem, *])
    | ((with_reducible apply run_drawGo Cl.zero Cl.zero_plain mixed); (focus kernel_rfl); simp only [go_sem, *])
    | ((with_reducible apply run_cond_t); (focus (simp only [go_sem, *]; done)))
    | ((with_reducible apply run_cond_f); (focus (simp only [go_sem, *]; done)))
    | ((with_reducible apply runO_store); (focus (simp only [go_sem]; rfl)); (focus (simp only [go_sem, *]; rfl)); (focus (simp only [go_sem, *]; rfl)); (focus (simp only [go_sem, *]; done)); (focus (simp only [go_sem, *]; done)); (focus (simp only [go_sem, *]; done)); (with_reducible apply runO_go); simp only [go_sem, *, Heap.set_set])
    | ((with_reducible apply runD_store); (focus (simp only [go_sem]; rfl)); (focus (simp only [go_sem, *]; rfl)); (focus (simp only [go_sem, *]; rfl)); (focus (simp only [go_sem, *]; done)); (focus (simp only [go_sem, *]; done)); (focus (simp only [go_sem, *]; done)); (focus (first | rfl | (simp only [go_sem, *]; done))); (with_reducible first | apply runD_go Cl.zero_plain | apply runD_goC); simp only [go_sem, *, Heap.set_set])
    | ((with_reducible apply run_ret Try.func50 res50 (H' := (H.set l.c (.cells R2 94)).set l.b (.cells [.v (.int .i64 s.p.vs), .v (.int .i64 s.p.ms), .list (thsC s.p.th), .v (.slice (some ⟨l.c, 0, none⟩) s.ts.length l.cap), .v (.int .i64 s.v0), .v (.int .i64 s.v1), .v (.int .i64 s.v2), .v (.int .i64 s.v3), .v (.int .i64 s.h0), .v (.int .i64 (k : Int))] 91))); (focus (simp only [go_sem, *]; rfl)); (focus trivial); (focus (repeat (first | assumption | exact Heap.sub_refl _ | refine Heap.sub_congr ?_ | refine Heap.sub_set ?_ (by assumption) | refine Heap.sub_set2 ?_ (by first | assumption | (simp only [*]; done) | (simp only [Heap.set_none', ne_eq, *, not_false_eq_true, and_self]; done)))))))
            exact ⟨rfl, rfl⟩
        · rcases HMU.out (.inr rfl) with rfl | rfl
          · by_cases hq : s.hol 0 = (k : Int)
            · have hk0 : eb = 5 := by rw [hkd]; exact if_pos hq
              subst hk0
              clear hkd
              have hd : stR H l ((s.tick (k : Int)).deed k ⟨6, ir, 0, iq⟩) = (H.set l.c (.cells R2 94)).set l.b (.cells [.v (.int .i64 s.p.vs), .v (.int .i64 s.p.ms), .list (thsC s.p.th), .v (.slice (some ⟨l.c, 0, none⟩) s.ts.length l.cap), .v (.int .i64 s.v0), .v (.int .i64 s.v1), .v (.int .i64 s.v2), .v (.int .i64 s.v3), .v (.int .i64 (-1)), .v (.int .i64 s.h1)] 91) := by
                show stR H l (if (s.tick (k : Int)).hol 0 = k then (s.tick (k : Int)).setHol 0 (-1) else (s.tick (k : Int))) = _
                rw [HHOL.out, if_pos hq]
                unfold stR stH
                rw [rowM_hol, HR2.out]
                show Heap.set _ _ (.cells [.v (.int .i64 s.p.vs), .v (.int .i64 s.p.ms), .list (thsC s.p.th), .v (.slice (some ⟨l.c, 0, none⟩) (s.tick (k : Int)).ts.length l.cap), .v (.int .i64 s.v0), .v (.int .i64 s.v1), .v (.int .i64 s.v2), .v (.int .i64 s.v3), .v (.int .i64 (-1)), .v (.int .i64 s.h1)] _) = _
                rw [HLT.out]
              rw [hd]
              clear hd
              repeat' (first
    | (with_reducible apply run_seq)
    | (with_reducible apply run_block)
    | (with_reducible apply run_inBlock)
    | ((with_reducible apply run_go); simp only [go_sem, *])
    | ((with_reducible apply run_drawGo Cl.zero Cl.zero_plain mixed); (focus kernel_rfl); simp only [go_sem, *])
    | ((with_reducible apply run_cond_t); (focus (simp only [go_sem, *]; done)))
    | ((with_reducible apply run_cond_f); (focus (simp only [go_sem, *]; done)))
    | ((with_reducible apply runO_store); (focus (simp only [go_sem]; rfl)); (focus (simp only [go_sem, *]; rfl)); (focus (simp only [go_sem, *]; rfl)); (focus (simp only [go_sem, *]; done)); (focus (simp only [go_sem, *]; done)); (focus (simp only [go_sem, *]; done)); (with_reducible apply runO_go); simp only [go_sem, *, Heap.set_set])
    | ((with_reducible apply runD_store); (focus (simp only [go_sem]; rfl)); (focus (simp only [go_sem, *]; rfl)); (focus (simp only [go_sem, *]; rfl)); (focus (simp only [go_sem, *]; done)); (focus (simp only [go_sem, *]; done)); (focus (simp only [go_sem, *]; done)); (focus (first | rfl | (simp only [go_sem, *]; done))); (with_reducible first | apply runD_go Cl.zero_plain | apply runD_goC); simp only [go_sem, *, Heap.set_set])
    | ((with_reducible apply run_ret Try.func50 res50 (H' := (H.set l.c (.cells R2 94)).set l.b (.cells [.v (.int .i64 s.p.vs), .v (.int .i64 s.p.ms), .list (thsC s.p.th), .v (.slice (some ⟨l.c, 0, none⟩) s.ts.length l.cap), .v (.int .i64 s.v0), .v (.int .i64 s.v1), .v (.int .i64 s.v2), .v (.int .i64 s.v3), .v (.int .i64 (-1)), .v (.int .i64 s.h1)] 91))); (focus (simp only [go_sem, *]; rfl)); (focus trivial); (focus (repeat (first | assumption | exact Heap.sub_refl _ | refine Heap.sub_congr ?_ | refine Heap.sub_set ?_ (by assumption) | refine Heap.sub_set2 ?_ (by first | assumption | (simp only [*]; done) | (simp only [Heap.set_none', ne_eq, *, not_false_eq_true, and_self]; done)))))))
              exact ⟨rfl, rfl⟩
            · have hk0 : eb = 1 := by rw [hkd]; exact if_neg hq
              subst hk0
              clear hkd
              have hd : stR H l ((s.tick (k : Int)).deed k ⟨6, ir, 0, iq⟩) = H.set l.c (.cells R2 94) := by
                show stR H l (if (s.tick (k : Int)).hol 0 = k then (s.tick (k : Int)).setHol 0 (-1) else (s.tick (k : Int))) = _
                rw [HHOL.out, if_neg hq]
                rw [HA2.out _ HBT.out, HR2.out]
              rw [hd]
              clear hd
              repeat' (first
    | (with_reducible apply run_seq)
    | (with_reducible apply run_block)
    | (with_reducible apply run_inBlock)
    | (with_reducible apply run_skip)
    | ((with_reducible apply run_go); simp only [go_sem, *])
    | ((with_reducible apply run_drawGo Cl.zero Cl.zero_plain mixed); (focus kernel_rfl); simp only [go_sem, *])
    | ((with_reducible apply run_cond_f); (focus (simp only [go_sem, *]; done)))
    | ((with_reducible apply runO_store); (focus (simp only [go_sem]; rfl)); (focus (simp only [go_sem, *]; rfl)); (focus (simp only [go_sem, *]; rfl)); (focus (simp only [go_sem, *]; done)); (focus (simp only [go_sem, *]; done)); (focus (simp only [go_sem, *]; done)); (with_reducible apply runO_go); simp only [go_sem, *, Heap.set_set])
    | ((with_reducible apply run_ret Try.func50 res50 (H' := H.set l.c (.cells R2 94))); (focus (simp only [go_sem, *]; rfl)); (focus trivial); (focus (repeat (first | assumption | exact Heap.sub_refl _ | refine Heap.sub_congr ?_ | refine Heap.sub_set ?_ (by assumption) | refine Heap.sub_set2 ?_ (by first | assumption | (simp only [*]; done) | (simp only [Heap.set_none', ne_eq, *, not_false_eq_true, and_self]; done)))))))
              exact ⟨rfl, rfl⟩
          · by_cases hq : s.hol 1 = (k : Int)
            · have hk0 : eb = 5 := by rw [hkd]; exact if_pos hq
              subst hk0
              clear hkd
              have hd : stR H l ((s.tick (k : Int)).deed k ⟨6, ir, 1, iq⟩) = (H.set l.c (.cells R2 94)).set l.b (.cells [.v (.int .i64 s.p.vs), .v (.int .i64 s.p.ms), .list (thsC s.p.th), .v (.slice (some ⟨l.c, 0, none⟩) s.ts.length l.cap), .v (.int .i64 s.v0), .v (.int .i64 s.v1), .v (.int .i64 s.v2), .v (.int .i64 s.v3), .v (.int .i64 s.h0), .v (.int .i64 (-1))] 91) := by
                show stR H l (if (s.tick (k : Int)).hol 1 = k then (s.tick (k : Int)).setHol 1 (-1) else (s.tick (k : Int))) = _
                rw [HHOL.out, if_pos hq]
                unfold stR stH
                rw [rowM_hol, HR2.out]
                show Heap.set _ _ (.cells [.v (.int .i64 s.p.vs), .v (.int .i64 s.p.ms), .list (thsC s.p.th), .v (.slice (some ⟨l.c, 0, none⟩) (s.tick (k : Int)).ts.length l.cap), .v (.int .i64 s.v0), .v (.int .i64 s.v1), .v (.int .i64 s.v2), .v (.int .i64 s.v3), .v (.int .i64 s.h0), .v (.int .i64 (-1))] _) = _
                rw [HLT.out]
              rw [hd]
              clear hd
              repeat' (first
    | (with_reducible apply run_seq)
    | (with_reducible apply run_block)
    | (with_reducible apply run_inBlock)
    | ((with_reducible apply run_go); simp only [go_sem, *])
    | ((with_reducible apply run_drawGo Cl.zero Cl.zero_plain mixed); (focus kernel_rfl); simp only [go_sem, *])
    | ((with_reducible apply run_cond_t); (focus (simp only [go_sem, *]; done)))
    | ((with_reducible apply run_cond_f); (focus (simp only [go_sem, *]; done)))
    | ((with_reducible apply runO_store); (focus (simp only [go_sem]; rfl)); (focus (simp only [go_sem, *]; rfl)); (focus (simp only [go_sem, *]; rfl)); (focus (simp only [go_sem, *]; done)); (focus (simp only [go_sem, *]; done)); (focus (simp only [go_sem, *]; done)); (with_reducible apply runO_go); simp only [go_sem, *, Heap.set_set])
    | ((with_reducible apply runD_store); (focus (simp only [go_sem]; rfl)); (focus (simp only [go_sem, *]; rfl)); (focus (simp only [go_sem, *]; rfl)); (focus (simp only [go_sem, *]; done)); (focus (simp only [go_sem, *]; done)); (focus (simp only [go_sem, *]; done)); (focus (first | rfl | (simp only [go_sem, *]; done))); (with_reducible first | apply runD_go Cl.zero_plain | apply runD_goC); simp only [go_sem, *, Heap.set_set])
    | ((with_reducible apply run_ret Try.func50 res50 (H' := (H.set l.c (.cells R2 94)).set l.b (.cells [.v (.int .i64 s.p.vs), .v (.int .i64 s.p.ms), .list (thsC s.p.th), .v (.slice (some ⟨l.c, 0, none⟩) s.ts.length l.cap), .v (.int .i64 s.v0), .v (.int .i64 s.v1), .v (.int .i64 s.v2), .v (.int .i64 s.v3), .v (.int .i64 s.h0), .v (.int .i64 (-1))] 91))); (focus (simp only [go_sem, *]; rfl)); (focus trivial); (focus (repeat (first | assumption | exact Heap.sub_refl _ | refine Heap.sub_congr ?_ | refine Heap.sub_set ?_ (by assumption) | refine Heap.sub_set2 ?_ (by first | assumption | (simp only [*]; done) | (simp only [Heap.set_none', ne_eq, *, not_false_eq_true, and_self]; done)))))))
              exact ⟨rfl, rfl⟩
            · have hk0 : eb = 1 := by rw [hkd]; exact if_neg hq
              subst hk0
              clear hkd
              have hd : stR H l ((s.tick (k : Int)).deed k ⟨6, ir, 1, iq⟩) = H.set l.c (.cells R2 94) := by
                show stR H l (if (s.tick (k : Int)).hol 1 = k then (s.tick (k : Int)).setHol 1 (-1) else (s.tick (k : Int))) = _
                rw [HHOL.out, if_neg hq]
                rw [HA2.out _ HBT.out, HR2.out]
              rw [hd]
              clear hd
              repeat' (first
    | (with_reducible apply run_seq)
    | (with_reducible apply run_block)
    | (with_reducible apply run_inBlock)
    | (with_reducible apply run_skip)
    | ((with_reducible apply run_go); simp only [go_sem, *])
    | ((with_reducible apply run_drawGo Cl.zero Cl.zero_plain mixed); (focus kernel_rfl); simp only [go_sem, *])
    | ((with_reducible apply run_cond_f); (focus (simp only [go_sem, *]; done)))
    | ((with_reducible apply runO_store); (focus (simp only [go_sem]; rfl)); (focus (simp only [go_sem, *]; rfl)); (focus (simp only [go_sem, *]; rfl)); (focus (simp only [go_sem, *]; done)); (focus (simp only [go_sem, *]; done)); (focus (simp only [go_sem, *]; done)); (with_reducible apply runO_go); simp only [go_sem, *, Heap.set_set])
    | ((with_reducible apply run_ret Try.func50 res50 (H' := H.set l.c (.cells R2 94))); (focus (simp only [go_sem, *]; rfl)); (focus trivial); (focus (repeat (first | assumption | exact Heap.sub_refl _ | refine Heap.sub_congr ?_ | refine Heap.sub_set ?_ (by assumption) | refine Heap.sub_set2 ?_ (by first | assumption | (simp only [*]; done) | (simp only [Heap.set_none', ne_eq, *, not_false_eq_true, and_self]; done)))))))
              exact ⟨rfl, rfl⟩
        · have hk0 : eb = 1 := by rw [hkd]; rfl
          subst hk0
          clear hkd
          by_cases hq : (⟨X.pc + 1, X.fu - 1, X.r0, X.r1⟩ : Td).reg ir = 0
          · have hd : stR H l ((s.tick (k : Int)).deed k ⟨7, ir, ix, iq⟩) = H.set l.c (.cells R2 94) := by
              show stR H l (if ((s.tick (k : Int)).td k).reg ir = 0 then (s.tick (k : Int)) else (s.tick (k : Int)).setTd k { (s.tick (k : Int)).td k with pc := ix }) = _
              rw [HTD.out, if_pos hq]
              rw [HA2.out _ HBT.out, HR2.out]
            rw [hd]
            clear hd
            repeat' (first
    | (with_reducible apply run_seq)
    | (with_reducible apply run_block)
    | (with_reducible apply run_inBlock)
    | (with_reducible apply run_skip)
    | ((with_reducible apply run_go); simp only [go_sem, *])
    | ((with_reducible apply run_drawGo Cl.zero Cl.zero_plain mixed); (focus kernel_rfl); simp only [go_sem, *])
    | ((with_reducible apply run_cond_f); (focus (simp only [go_sem, *]; done)))
    | ((with_reducible apply runO_store); (focus (simp only [go_sem]; rfl)); (focus (simp only [go_sem, *]; rfl)); (focus (simp only [go_sem, *]; rfl)); (focus (simp only [go_sem, *]; done)); (focus (simp only [go_sem, *]; done)); (focus (simp only [go_sem, *]; done)); (with_reducible apply runO_go); simp only [go_sem, *, Heap.set_set])
    | ((with_reducible apply run_ret Try.func50 res50 (H' := H.set l.c (.cells R2 94))); (focus (simp only [go_sem, *]; rfl)); (focus trivial); (focus (repeat (first | assumption | exact Heap.sub_refl _ | refine Heap.sub_congr ?_ | refine Heap.sub_set ?_ (by assumption) | refine Heap.sub_set2 ?_ (by first | assumption | (simp only [*]; done) | (simp only [Heap.set_none', ne_eq, *, not_false_eq_true, and_self]; done)))))))
            exact ⟨rfl, rfl⟩
          · have hd : stR H l ((s.tick (k : Int)).deed k ⟨7, ir, ix, iq⟩) = H.set l.c (.cells ((tdsC ((s.tick (k : Int)).ts.set k ⟨ix, X.fu - 1, X.r0, X.r1⟩)).flatten ++ l.rest) 94) := by
              show stR H l (if ((s.tick (k : Int)).td k).reg ir = 0 then (s.tick (k : Int)) else (s.tick (k : Int)).setTd k { (s.tick (k : Int)).td k with pc := ix }) = _
              rw [HTD.out, if_neg hq, HA2.out _ ((stM_td _ _ _ _).trans HBT.out)]
              rfl
            rw [hd]
            clear hd
            repeat' (first
    | (with_reducible apply run_seq)
    | (with_reducible apply run_block)
    | (with_reducible apply run_inBlock)
    | ((with_reducible apply run_go); simp only [go_sem, *])
    | ((with_reducible apply run_drawGo Cl.zero Cl.zero_plain mixed); (focus kernel_rfl); simp only [go_sem, *])
    | ((with_reducible apply run_cond_t); (focus (simp only [go_sem, *]; done)))
    | ((with_reducible apply run_cond_f); (focus (simp only [go_sem, *]; done)))
    | ((with_reducible apply runO_store); (focus (simp only [go_sem]; rfl)); (focus (simp only [go_sem, *]; rfl)); (focus (simp only [go_sem, *]; rfl)); (focus (simp only [go_sem, *]; done)); (focus (simp only [go_sem, *]; done)); (focus (simp only [go_sem, *]; done)); (with_reducible apply runO_go); simp only [go_sem, *, Heap.set_set])
    | ((with_reducible apply run_ret Try.func50 res50 (H' := H.set l.c (.cells ((tdsC ((s.tick (k : Int)).ts.set k ⟨ix, X.fu - 1, X.r0, X.r1⟩)).flatten ++ l.rest) 94))); (focus (simp only [go_sem, *]; rfl)); (focus trivial); (focus (repeat (first | assumption | exact Heap.sub_refl _ | refine Heap.sub_congr ?_ | refine Heap.sub_set ?_ (by assumption) | refine Heap.sub_set2 ?_ (by first | assumption | (simp only [*]; done) | (simp only [Heap.set_none', ne_eq, *, not_false_eq_true, and_self]; done)))))))
            exact ⟨rfl, rfl⟩
        · have hk0 : eb = 1 := by rw [hkd]; rfl
          subst hk0
          clear hkd
          have hd : stR H l ((s.tick (k : Int)).deed k ⟨8, ir, ix, iq⟩) = H.set l.c (.cells R2 94) := by
            show stR H l (s.tick (k : Int)) = _
            rw [HA2.out _ HBT.out, HR2.out]
          rw [hd]
          clear hd
          repeat' (first
    | (with_reducible apply run_seq)
    | (with_reducible apply run_block)
    | (with_reducible apply run_inBlock)
    | (with_reducible apply run_skip)
    | ((with_reducible apply run_go); simp only [go_sem, *])
    | ((with_reducible apply run_drawGo Cl.zero Cl.zero_plain mixed); (focus kernel_rfl); simp only [go_sem, *])
    | ((with_reducible apply run_cond_f); (focus (simp only [go_sem, *]; done)))
    | ((with_reducible apply runO_store); (focus (simp only [go_sem]; rfl)); (focus (simp only [go_sem, *]; rfl)); (focus (simp only [go_sem, *]; rfl)); (focus (simp only [go_sem, *]; done)); (focus (simp only [go_sem, *]; done)); (focus (simp only [go_sem, *]; done)); (with_reducible apply runO_go); simp only [go_sem, *, Heap.set_set])
    | ((with_reducible apply run_ret Try.func50 res50 (H' := H.set l.c (.cells R2 94))); (focus (simp only [go_sem, *]; rfl)); (focus trivial); (focus (repeat (first | assumption | exact Heap.sub_refl _ | refine Heap.sub_congr ?_ | refine Heap.sub_set ?_ (by assumption) | refine Heap.sub_set2 ?_ (by first | assumption | (simp only [*]; done) | (simp only [Heap.set_none', ne_eq, *, not_false_eq_true, and_self]; done)))))))
          exact ⟨rfl, rfl⟩
end Go.Proofs.Ytcfeklnmampndaa
