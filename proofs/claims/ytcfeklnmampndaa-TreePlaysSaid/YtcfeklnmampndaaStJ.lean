/-
  Contracts: a new state.
-/
import Derived.Test.YtcfeklnmampndaaStFH
import Derived.Test.YtcfeklnmampndaaPgI
import Derived.Test.YtcfeklnmampndaaLibB
set_option linter.unusedSimpArgs false
set_option linter.unusedVariables false
namespace Go.Proofs.Ytcfeklnmampndaa
open Go Go.Sn Go.RowKit

def newS (p : Pg) (fuel : Int) : St := ⟨p, List.replicate p.th.length ⟨0, fuel, 0, 0⟩, 0, 0, 0, 0, -1, -1⟩
def okN (p : Pg) (fuel : Int) : Bool := rightP p && decide (0 ≤ fuel ∧ fuel ≤ 8)
theorem okN_ok {p : Pg} {fuel : Int} (h : okN p fuel = true) : OkSt (newS p fuel) := by
  unfold okN at h
  rw [Bool.and_eq_true, decide_eq_true_eq] at h
  refine ⟨h.1, by simp [newS], fun k hk => ?_⟩
  have hk' : k < p.th.length := by simpa [newS] using hk
  have : (newS p fuel).ts.getD k default = ⟨0, fuel, 0, 0⟩ := by simp [newS, List.getD_eq_getElem?_getD, hk']
  rw [this]
  exact ⟨h.2, by simp⟩
/-- The threads, the first `k` of them with fuel. -/
def mkT (n : Nat) (fuel : Int) (k : Nat) : List Td := List.replicate k ⟨0, fuel, 0, 0⟩ ++ List.replicate (n - k) ⟨0, 0, 0, 0⟩
theorem mkT_len {n : Nat} {fuel : Int} {k : Nat} (h : k ≤ n) : (mkT n fuel k).length = n := by simp [mkT]; omega
theorem mkT_step {n : Nat} {fuel : Int} {k : Nat} (h : k < n) : (mkT n fuel k).set k ⟨0, fuel, 0, 0⟩ = mkT n fuel (k + 1) := by
  unfold mkT
  have e : n - k = (n - (k + 1)) + 1 := by omega
  rw [e, List.replicate_succ, List.set_append_right _ _ (by simp)]
  simp [List.replicate_succ']
theorem mkT_get {n : Nat} {fuel : Int} {k : Nat} (h : k < n) : (mkT n fuel k).getD k default = ⟨0, 0, 0, 0⟩ := by
  unfold mkT
  have e : n - k = (n - (k + 1)) + 1 := by omega
  rw [e, List.replicate_succ]
  simp [List.getD_eq_getElem?_getD]
theorem mkT_0 (n : Nat) (fuel : Int) : (tdsC (mkT n fuel 0)).flatten = (List.replicate n [D.v (.int .i64 0), D.v (.int .i64 0), D.v (.int .i64 0), D.v (.int .i64 0)]).flatten := by
  simp [mkT, tdsC, tdC]

def NewP (p : Pg) (fuel : Int) (H : Heap) (d : D) (H' : Heap) : Prop :=
  (okN p fuel = true ∧ ∃ l : Lo, H l.b = none ∧ H l.c = none ∧ l.b ≠ l.c ∧ p.th.length ≤ l.cap ∧ d = .tup [.v (.pointer (some ⟨l.b, 0, none⟩)), .v (.int .i64 0)] ∧ H' = stP H l (newS p fuel)) ∨
  (okN p fuel = false ∧ d = .tup [.v (.pointer none), .v (.int .i64 1)] ∧ H' = H)

set_option maxHeartbeats 8000000 in
theorem stNew_call (W : World) (H : Heap) (p : Pg) (fuel : Int) (hc : ∀ c ∈ p.th, c.length ≤ 1000000) :
    CallA Try.prog W 36 [.agg (pgC p), .v (.int .i64 fuel)] H (NewP p fuel H) := by
  refine call_in Try.func36 rfl Try.ntmps36 (by simp) ?_
  have c1 := fun H => rightP_call W H p hc
  cases hn : okN p fuel with
  | false =>
    have hE : NewP p fuel H (.tup [.v (.pointer none), .v (.int .i64 1)]) H := .inr ⟨hn, rfl, rfl⟩
    by_cases hr : rightP p = true
    · have hf : fuel < 0 ∨ 8 < fuel := by unfold okN at hn; rw [hr] at hn; simp at hn; omega
      rw [hr] at c1
      clear hn hr
      rcases hf with hf | hf
      · repeat' (first
    | (with_reducible apply run_seq)
    | ((with_reducible apply run_go); simp only [go_sem, *])
    | ((with_reducible apply run_cond_t); (focus (simp only [go_sem, *]; done)))
    | ((with_reducible apply runO_box); (focus (simp only [go_sem, *]; done)); intro pb hpb; have hfb := Heap.ne_of_none hpb; (try simp only [Heap.set_none'] at hpb); (with_reducible apply runO_go); simp only [go_sem, *])
    | ((with_reducible apply runO_callF known54); simp only [go_sem, *]; refine (c1 _).use ?_; (with_reducible apply runO_go); simp only [go_sem, *])
    | ((with_reducible apply run_ret Try.func36 res36 (H' := H)); (focus (simp only [go_sem, *]; rfl)); (focus trivial); (focus (repeat (first | assumption | exact Heap.sub_refl _ | refine Heap.sub_congr ?_ | refine Heap.sub_set ?_ (by assumption) | refine Heap.sub_set2 ?_ (by first | assumption | (simp only [*]; done) | (simp only [Heap.set_none', ne_eq, *, not_false_eq_true, and_self]; done)))))))
        exact hE
      · have hf0 : ¬ fuel < 0 := by omega
        repeat' (first
    | (with_reducible apply run_seq)
    | ((with_reducible apply run_go); simp only [go_sem, *])
    | ((with_reducible apply run_cond_t); (focus (simp only [go_sem, *]; done)))
    | ((with_reducible apply runO_box); (focus (simp only [go_sem, *]; done)); intro pb hpb; have hfb := Heap.ne_of_none hpb; (try simp only [Heap.set_none'] at hpb); (with_reducible apply runO_go); simp only [go_sem, *])
    | ((with_reducible apply runO_callF known54); simp only [go_sem, *]; refine (c1 _).use ?_; (with_reducible apply runO_go); simp only [go_sem, *])
    | ((with_reducible apply run_ret Try.func36 res36 (H' := H)); (focus (simp only [go_sem, *]; rfl)); (focus trivial); (focus (repeat (first | assumption | exact Heap.sub_refl _ | refine Heap.sub_congr ?_ | refine Heap.sub_set ?_ (by assumption) | refine Heap.sub_set2 ?_ (by first | assumption | (simp only [*]; done) | (simp only [Heap.set_none', ne_eq, *, not_false_eq_true, and_self]; done)))))))
        exact hE
    · rw [Bool.not_eq_true] at hr
      rw [hr] at c1
      clear hn hr
      by_cases hf : fuel < 0
      · repeat' (first
    | (with_reducible apply run_seq)
    | ((with_reducible apply run_go); simp only [go_sem, *])
    | ((with_reducible apply run_cond_t); (focus (simp only [go_sem, *]; done)))
    | ((with_reducible apply runO_box); (focus (simp only [go_sem, *]; done)); intro pb hpb; have hfb := Heap.ne_of_none hpb; (try simp only [Heap.set_none'] at hpb); (with_reducible apply runO_go); simp only [go_sem, *])
    | ((with_reducible apply runO_callF known54); simp only [go_sem, *]; refine (c1 _).use ?_; (with_reducible apply runO_go); simp only [go_sem, *])
    | ((with_reducible apply run_ret Try.func36 res36 (H' := H)); (focus (simp only [go_sem, *]; rfl)); (focus trivial); (focus (repeat (first | assumption | exact Heap.sub_refl _ | refine Heap.sub_congr ?_ | refine Heap.sub_set ?_ (by assumption) | refine Heap.sub_set2 ?_ (by first | assumption | (simp only [*]; done) | (simp only [Heap.set_none', ne_eq, *, not_false_eq_true, and_self]; done)))))))
        exact hE
      · by_cases hf2 : 8 < fuel
        · repeat' (first
    | (with_reducible apply run_seq)
    | ((with_reducible apply run_go); simp only [go_sem, *])
    | ((with_reducible apply run_cond_t); (focus (simp only [go_sem, *]; done)))
    | ((with_reducible apply runO_box); (focus (simp only [go_sem, *]; done)); intro pb hpb; have hfb := Heap.ne_of_none hpb; (try simp only [Heap.set_none'] at hpb); (with_reducible apply runO_go); simp only [go_sem, *])
    | ((with_reducible apply runO_callF known54); simp only [go_sem, *]; refine (c1 _).use ?_; (with_reducible apply runO_go); simp only [go_sem, *])
    | ((with_reducible apply run_ret Try.func36 res36 (H' := H)); (focus (simp only [go_sem, *]; rfl)); (focus trivial); (focus (repeat (first | assumption | exact Heap.sub_refl _ | refine Heap.sub_congr ?_ | refine Heap.sub_set ?_ (by assumption) | refine Heap.sub_set2 ?_ (by first | assumption | (simp only [*]; done) | (simp only [Heap.set_none', ne_eq, *, not_false_eq_true, and_self]; done)))))))
          exact hE
        · repeat' (first
    | (with_reducible apply run_seq)
    | ((with_reducible apply run_go); simp only [go_sem, *])
    | ((with_reducible apply run_cond_t); (focus (simp only [go_sem, *]; done)))
    | ((with_reducible apply runO_box); (focus (simp only [go_sem, *]; done)); intro pb hpb; have hfb := Heap.ne_of_none hpb; (try simp only [Heap.set_none'] at hpb); (with_reducible apply runO_go); simp only [go_sem, *])
    | ((with_reducible apply runO_callF known54); simp only [go_sem, *]; refine (c1 _).use ?_; (with_reducible apply runO_go); simp only [go_sem, *])
    | ((with_reducible apply run_ret Try.func36 res36 (H' := H)); (focus (simp only [go_sem, *]; rfl)); (focus trivial); (focus (repeat (first | assumption | exact Heap.sub_refl _ | refine Heap.sub_congr ?_ | refine Heap.sub_set ?_ (by assumption) | refine Heap.sub_set2 ?_ (by first | assumption | (simp only [*]; done) | (simp only [Heap.set_none', ne_eq, *, not_false_eq_true, and_self]; done)))))))
          exact hE
  | true =>
    have hn' := hn
    unfold okN at hn'
    rw [Bool.and_eq_true, decide_eq_true_eq] at hn'
    obtain ⟨hr, hf⟩ := hn'
    have hf0 : ¬ fuel < 0 := by omega
    have hf8 : ¬ 8 < fuel := by omega
    obtain ⟨_, ⟨h1, h4⟩, hall⟩ := right_ok hr
    obtain ⟨_, hc8⟩ := right_len hr
    have F : FewP p := ⟨by omega, fun c hc => by have := hc8 c hc; omega⟩
    have c2 := fun H' => copyF_call W H' p F
    have HN : Hid _ := hn
    rw [hr] at c1
    clear hn hr hf hall hc8 F hc
    simp only [pgC] at c1 c2 ⊢
    generalize hL : p.th.length = n at *
    repeat' (first
    | ((with_reducible apply run_drawGoC (Cl.pure 37) mixed); (focus kernel_rfl); simp only [go_sem, *])
    | (with_reducible apply run_seq)
    | (with_reducible apply run_skip)
    | ((with_reducible apply run_go); simp only [go_sem, *])
    | ((with_reducible apply run_cond_f); (focus (simp only [go_sem, *]; done)))
    | ((with_reducible apply runO_box); (focus (simp only [go_sem, *]; done)); intro pb hpb; have hfb := Heap.ne_of_none hpb; (try simp only [Heap.set_none'] at hpb); (with_reducible apply runO_go); simp only [go_sem, *])
    | ((with_reducible apply runO_callF known54); simp only [go_sem, *]; refine (c1 _).use ?_; (with_reducible apply runO_go); simp only [go_sem, *]))
    clear c1
    generalize pb = p2 at *
    have hp2 := hpb
    have hfb2 := hfb
    clear hpb hfb
    (with_reducible apply runD_callP known37); (focus rfl)
    · intro H'
      simp only [go_sem, *]
      exact c2 H'
    clear c2
    (with_reducible apply runD_goC); simp only [go_sem, *]
    refine runD_make_cells (c := n) (k1 := .i64) (k2 := .i64) Try.underlying115 sz119 by119 zr119 rfl (by decide) (by simp only [go_sem, *]) (by simp only [go_sem, *]) (by omega) (by simp only [maxLen]; omega) (fun pc hpc => ?_)
    have hfc := Heap.ne_of_none hpc
    (with_reducible apply runD_goC); simp only [go_sem, *]
    repeat' (first
    | (with_reducible apply run_seq)
    | (with_reducible apply run_block)
    | ((with_reducible apply run_go); simp only [go_sem, *])
    | ((with_reducible apply runD_box); (focus (simp only [go_sem, *]; done)); intro pb hpb; have hfb := Heap.ne_of_none hpb; (try simp only [Heap.set_none'] at hpb); (with_reducible first | apply runD_go Cl.zero_plain | apply runD_goC); simp only [go_sem, *]))
    obtain ⟨⟨hbc, hbc'⟩, ⟨hb2, hb2'⟩, hbH⟩ := hpb
    have hpc2 : pc ≠ p2 := fun e => by rw [e, Heap.set_same] at hpc; cases hpc
    have hpcH : H pc = none := by rw [Heap.set_other _ _ hpc2] at hpc; exact hpc
    have hpc2' : p2 ≠ pc := fun e => hpc2 e.symm
    have hz : (List.replicate n [D.v (.int .i64 0), D.v (.int .i64 0), D.v (.int .i64 0), D.v (.int .i64 0)]).flatten = (tdsC (mkT n fuel 0)).flatten ++ [] := by rw [mkT_0, List.append_nil]
    rw [hz]
    clear hz hfb hfc hfb2
    generalize pb = pz at *
    refine run_loop (fun na ea Ha => ∃ (k : Nat), k ≤ n ∧ na = n - k ∧ ea 1 = .v (.int .i64 fuel) ∧ ea 2 = .v (.pointer (some ⟨p2, 0, none⟩)) ∧ ea 6 = .v (.pointer (some ⟨pz, 0, none⟩)) ∧ ea 32 = .v (.int .i64 (n : Int)) ∧ ea 33 = .v (.int .i64 (k : Int)) ∧ ((H.set p2 (.cells [.v (.int .i64 p.vs), .v (.int .i64 p.ms), .list (thsC p.th)] 24)).set pc (.cells ((tdsC (mkT n fuel k)).flatten ++ []) 119)).set pz (.cells [.v (.int .i64 p.vs), .v (.int .i64 p.ms), .list (thsC p.th), .v (.slice (some ⟨pc, 0, none⟩) n n), .v (.int .i64 0), .v (.int .i64 0), .v (.int .i64 0), .v (.int .i64 0), .v (.int .i64 0), .v (.int .i64 0)] 117) = Ha) (n)
        ⟨0, Nat.zero_le _, rfl, (by simp only [go_sem, *]), (by simp only [go_sem, *]), (by simp only [go_sem, *]), (by simp only [go_sem, *]), (by simp only [go_sem] <;> rfl), rfl⟩ ?_
    rintro na ea Ha ih ⟨k, ak, rfl, as1, as2, as6, as32, as33, rfl⟩
    have IHa : Hid _ := ih
    clear ih
    by_cases hlt : k < n
    · have hw := wrap_succ (k := k) (by omega)
      have hkl : k < (mkT n fuel k).length := by rw [mkT_len (by omega)]; exact hlt
      have FF := rowF ⟨p, mkT n fuel k, 0, 0, 0, 0, 0, 0⟩ ⟨pz, pc, n, []⟩ hkl
      simp only [mkT_get hlt] at FF
      have p1 := FF.p1 fuel
      have n1 := FF.n1
      simp only [mkT_step hlt] at p1
      have hR : rowM ⟨p, mkT n fuel k, 0, 0, 0, 0, 0, 0⟩ ⟨pz, pc, n, []⟩ = (tdsC (mkT n fuel k)).flatten ++ [] := rfl
      rw [hR] at p1 n1
      clear FF hkl hR
      generalize (tdsC (mkT n fuel k)).flatten ++ [] = R at *
      repeat' (first
    | (with_reducible apply run_seq)
    | (with_reducible apply run_block)
    | (with_reducible apply run_inBlock)
    | (with_reducible apply run_skip)
    | ((with_reducible apply run_go); simp only [go_sem, *])
    | ((with_reducible apply run_cond_t); (focus (simp only [go_sem, *]; done)))
    | ((with_reducible apply runO_store); (focus (simp only [go_sem]; rfl)); (focus (simp only [go_sem, *]; rfl)); (focus (simp only [go_sem, *]; rfl)); (focus (simp only [go_sem, *]; done)); (focus (simp only [go_sem, *]; done)); (focus (simp only [go_sem, *]; done)); (with_reducible apply runO_go); simp only [go_sem, *, Heap.set_set]))
      refine IHa.out (n - (k + 1)) _ _ (by omega) ⟨k + 1, by omega, rfl, (by simp only [go_sem, *]), (by simp only [go_sem, *]), (by simp only [go_sem, *]), (by simp only [go_sem, *]), (by simp only [go_sem, *]), ?_⟩
      funext q
      simp only [Heap.set_at]
      clear IHa HN p1 n1
      grind
    · obtain rfl : k = n := by omega
      clear IHa
      have hmk : mkT k fuel k = List.replicate k ⟨0, fuel, 0, 0⟩ := by simp [mkT]
      rw [hmk]
      generalize hRR : (tdsC (List.replicate k ⟨0, fuel, 0, 0⟩)).flatten ++ [] = RR at *
      repeat' (first
    | (with_reducible apply run_seq)
    | (with_reducible apply run_block)
    | (with_reducible apply run_exit rfl)
    | ((with_reducible apply run_go); simp only [go_sem, *])
    | ((with_reducible apply run_cond_f); (focus (simp only [go_sem, *]; done))))
      refine run_loop1 ?_
      repeat' (first
    | (with_reducible apply run_seq)
    | (with_reducible apply run_block)
    | (with_reducible apply run_inBlock)
    | (with_reducible apply run_skip)
    | ((with_reducible apply run_go); simp only [go_sem, *])
    | ((with_reducible apply run_cond_t); (focus (simp only [go_sem, *]; done)))
    | ((with_reducible apply runO_store); (focus (simp only [go_sem]; rfl)); (focus (simp only [go_sem, *]; rfl)); (focus (simp only [go_sem, *]; rfl)); (focus (simp only [go_sem, *]; done)); (focus (simp only [go_sem, *]; done)); (focus (simp only [go_sem, *]; done)); (with_reducible apply runO_go); simp only [go_sem, *, Heap.set_set]))
      refine run_inLoop ?_
      repeat' (first
    | (with_reducible apply run_seq)
    | (with_reducible apply run_block)
    | (with_reducible apply run_inBlock)
    | (with_reducible apply run_skip)
    | ((with_reducible apply run_go); simp only [go_sem, *])
    | ((with_reducible apply run_cond_t); (focus (simp only [go_sem, *]; done)))
    | ((with_reducible apply runO_store); (focus (simp only [go_sem]; rfl)); (focus (simp only [go_sem, *]; rfl)); (focus (simp only [go_sem, *]; rfl)); (focus (simp only [go_sem, *]; done)); (focus (simp only [go_sem, *]; done)); (focus (simp only [go_sem, *]; done)); (with_reducible apply runO_go); simp only [go_sem, *, Heap.set_set]))
      refine run_inLoop ?_
      repeat' (first
    | (with_reducible apply run_seq)
    | (with_reducible apply run_exit rfl)
    | ((with_reducible apply run_go); simp only [go_sem, *])
    | ((with_reducible apply run_cond_f); (focus (simp only [go_sem, *]; done)))
    | ((with_reducible apply run_ret Try.func36 res36 (H' := (H.set pc (.cells RR 119)).set pz (.cells [.v (.int .i64 p.vs), .v (.int .i64 p.ms), .list (thsC p.th), .v (.slice (some ⟨pc, 0, none⟩) k k), .v (.int .i64 0), .v (.int .i64 0), .v (.int .i64 0), .v (.int .i64 0), .v (.int .i64 (-1)), .v (.int .i64 (-1))] 117))); (focus (simp only [go_sem, *]; rfl)); (focus trivial); (focus (repeat (first | assumption | exact Heap.sub_refl _ | refine Heap.sub_congr ?_ | refine Heap.sub_set ?_ (by assumption) | refine Heap.sub_set2 ?_ (by first | assumption | (simp only [*]; done) | (simp only [Heap.set_none', ne_eq, *, not_false_eq_true, and_self]; done)))))))
      refine .inl ⟨HN.out, ⟨pz, pc, k, []⟩, hbH, hpcH, hbc, by rw [hL]; exact Nat.le_refl _, rfl, ?_⟩
      unfold stP stH rowM stM stD newS
      simp only [hL, hRR, List.length_replicate]
end Go.Proofs.Ytcfeklnmampndaa
