/-
  The law of races, done.
-/
import Derived.Test.YtobdagjdhgjplaaRcI
import Derived.Test.YtobdagjdhgjplaaRcJ
set_option linter.unusedSimpArgs false
set_option linter.unusedVariables false
namespace Go.Proofs.Ytobdagjdhgjplaa
open Go Go.Sn Go.RowKit
-- NONE stH_none

@[go_sem] theorem rcsC_drop (l : List Rc) (n : Nat) : (rcsC l).drop n = rcsC (l.drop n) := by simp [rcsC]
/-- What a thread does next may be. -/
theorem nxt_right {s : St} (hs : OkSt s) {t : Int} (h : s.has t = true) : rightR (s.nxt t) = true := by
  obtain ⟨k, rfl, hk⟩ := is_nat (has_is h)
  have h4 := (ok_len hs).1
  obtain ⟨hi, _, _⟩ := hs.ins h
  rw [nxt_has h]
  have hx := hi.x0
  have hv := hi.var
  have hm := hi.mu
  generalize s.ins (k : Int) = i at *
  unfold St.evI
  have e1 : decide ((k : Int) < 0) = false := decide_eq_false (by omega)
  have e2 : decide (3 < (k : Int)) = false := decide_eq_false (by omega)
  by_cases k1 : i.kd = 1
  · rw [if_pos k1]
    have hx4 := hv (.inl k1)
    unfold rightR
    simp only [e1, e2]
    have e3 : decide (i.x < 0) = false := decide_eq_false (by omega)
    have e4 : decide (3 < i.x) = false := decide_eq_false (by omega)
    simp [e3, e4]
  · rw [if_neg k1]
    by_cases k2 : i.kd = 2
    · rw [if_pos k2]
      have hx4 := hv (.inr k2)
      unfold rightR
      simp only [e1, e2]
      have e3 : decide (i.x < 0) = false := decide_eq_false (by omega)
      have e4 : decide (3 < i.x) = false := decide_eq_false (by omega)
      simp [e3, e4]
    · rw [if_neg k2]
      by_cases k5 : i.kd = 5
      · rw [if_pos k5]
        rcases hm (.inl k5) with hx0 | hx0 <;> (rw [hx0]; unfold rightR; simp [e1, e2]) <;> omega
      · rw [if_neg k5]
        by_cases k6 : i.kd = 6
        · rw [if_pos k6]
          split
          · rcases hm (.inr k6) with hx0 | hx0 <;> (rw [hx0]; unfold rightR; simp [e1, e2]) <;> omega
          · unfold rightR; simp [e1, e2] <;> omega
        · rw [if_neg k6]
          split <;> (unfold rightR; simp [e1, e2] <;> omega)
theorem rpl_right : ∀ (row : List Int) {s : St}, OkSt s → AllR (rpl s row).2.1
  | [], s, _ => rfl
  | t :: row, s, hs => by
    rw [rpl]
    split
    · rename_i he
      have h1 := rpl_right row (ok_stS hs t)
      have h2 := nxt_right hs (err_0 he).2.1
      unfold AllR at h1 ⊢
      simp only [List.all_cons, h1, h2, Bool.and_self]
    · rfl
theorem revP_app (l : List Ev) (x : Ev) : ∀ {k : Nat}, k ≤ l.length → revP (l ++ [x]) k = revP l k
  | 0, _ => rfl
  | k + 1, h => by
    have e1 : (l ++ [x]).take k = l.take k := List.take_append_of_le_length (by omega)
    have e2 : (l ++ [x]).getD k default = l.getD k default := by simp [List.getD_eq_getElem?_getD, List.getElem?_append_left (show k < l.length by omega)]
    rw [revP_succ, revP_succ, revP_app l x (by omega), e1, e2]
theorem revE_app {l : List Ev} (h : AllR l) {x : Ev} (hx : rightR x = true) : revE (l ++ [x]) = revE l ++ racP l x := by
  have h2 : AllR (l ++ [x]) := by unfold AllR at *; simp [h, hx]
  unfold revE
  rw [if_pos h, if_pos h2, List.length_append, List.length_cons, List.length_nil, revP_succ, revP_app l x (Nat.le_refl _)]
  congr 2
  · simp
  · simp [List.getD]
theorem rac_th (l : List Ev) (e : Ev) (t : Int) : (racP l e).filter (fun r => decide (r.th = t)) = if e.th = t then racP l e else [] := by
  unfold racP rcK
  by_cases h : e.th = t
  · rw [if_pos h]
    exact List.filter_eq_self.2 fun r hr => by
      obtain ⟨i, _, rfl⟩ := List.mem_map.1 hr
      exact decide_eq_true h
  · rw [if_neg h]
    exact List.filter_eq_nil_iff.2 fun r hr => by
      obtain ⟨i, _, rfl⟩ := List.mem_map.1 hr
      simp [h]
theorem rsS_filter {s : St} (l : List Ev) (t : Nat) : ∀ k : Nat, (rsS s l k).filter (fun r => decide (r.th = (t : Int))) = if t < k then (if s.has (t : Int) then racP l (s.nxt (t : Int)) else []) else []
  | 0 => rfl
  | k + 1 => by
    rw [rsS_succ, List.filter_append, rsS_filter l t k]
    by_cases hkt : k = t
    · subst hkt
      rw [if_neg (Nat.lt_irrefl _), if_pos (Nat.lt_succ_self _), List.nil_append]
      cases hh : s.has (k : Int) with
      | false => rfl
      | true =>
        simp only [if_true]
        rw [rac_th, if_pos (nxt_th hh)]
    · have e : ((if s.has (k : Int) then racP l (s.nxt (k : Int)) else []) : List Rc).filter (fun r => decide (r.th = (t : Int))) = [] := by
        cases hh : s.has (k : Int) with
        | false => rfl
        | true =>
          simp only [if_true]
          rw [rac_th, if_neg (by rw [nxt_th hh]; omega)]
      rw [e, List.append_nil]
      by_cases h : t < k
      · simp only [h, show t < k + 1 by omega, if_true]
      · simp only [h, show ¬ t < k + 1 by omega, if_false]
theorem rsE_filter {s : St} {l : List Ev} (h : AllR l) {t : Int} (hh : s.has t = true) : (rsE s l).filter (fun r => decide (r.th = t)) = racP l (s.nxt t) := by
  obtain ⟨k, rfl, hk⟩ := is_nat (has_is hh)
  unfold rsE
  rw [if_pos h, rsS_filter l k, if_pos hk, hh, if_pos rfl]
def fiT (l : List Rc) (t : Int) (k : Nat) : List Rc := (l.take k).filter fun r => decide (r.th = t)
theorem fiT_succ (l : List Rc) (t : Int) {k : Nat} (h : k < l.length) : fiT l t (k + 1) = if (l.getD k default).th = t then fiT l t k ++ [l.getD k default] else fiT l t k := by
  unfold fiT
  rw [take_succ_getD _ _ h, List.filter_append]
  generalize l.getD k default = x
  by_cases he : x.th = t
  · rw [if_pos he]; simp [he]
  · rw [if_neg he]; simp [he]
theorem fiT_len (l : List Rc) (t : Int) (k : Nat) : (fiT l t k).length ≤ l.length := Nat.le_trans (List.length_filter_le _ _) (by rw [List.length_take]; omega)

set_option maxRecDepth 100000 in
set_option maxHeartbeats 16000000 in
theorem raceDone_call (W : World) (H : Heap) (p : Pg) (fuel : Int) (th : List Int) (t : Int) (hp : p.th.length ≤ 4000000000000000) :
    CallA Try.prog W 10 [.agg (pgC p), .v (.int .i64 fuel), .list (intsC th), .v (.int .i64 t)] H fun r H' => r = .v (.bool true) := by
  refine call_in Try.func10 rfl Try.ntmps10 (by simp) ?_
  have c0 := fun H => awake7_call W H
  have c1 := fun H => few_call W H p hp
  by_cases hf : fewP p = true
  · rw [hf] at c1
    have F := few_of hf
    have hc : ∀ c ∈ p.th, c.length ≤ 1000000 := fun c hc => by have := F.code c hc; omega
    have HC : Hid _ := hc
    clear hf F hc
    by_cases hl : th.length ≤ 40
    · have hl' : ¬ (40 : Int) < (th.length : Int) := by omega
      repeat' (first
    | (with_reducible apply run_seq)
    | (with_reducible apply run_skip)
    | ((with_reducible apply run_go); simp only [go_sem, *])
    | ((with_reducible apply run_cond_f); (focus (simp only [go_sem, *]; done)))
    | ((with_reducible apply runO_box); (focus (simp only [go_sem, *]; done)); intro pb hpb; have hfb := Heap.ne_of_none hpb; (try simp only [Heap.set_none', stH_none] at hpb); (with_reducible apply runO_go); simp only [go_sem, *])
    | ((with_reducible apply runO_callF known36); simp only [go_sem, *]; refine (c0 _).use ?_; (with_reducible apply runO_go); simp only [go_sem, *])
    | ((with_reducible apply runO_callFG known23); (focus (simp only [go_sem, *]; rfl)); (focus (intro _; simp only [go_sem, *]; exact c1 _)); (with_reducible apply runO_go); simp only [go_sem, *]))
      clear c0 c1
      generalize pb = p3 at *
      have hsub0 : H.sub (H.set p3 (.cells (pgC p) 38)) := Heap.sub_set (Heap.sub_refl _) hpb
      generalize hK : H.set p3 (.cells (pgC p) 38) = K at *
      clear hfb hpb hK
      (with_reducible apply runO_callF known24); simp only [go_sem, *]
      refine (replay_call W K p fuel th HC.out (by omega)).mono (fun d1 H1 hh => ?_)
      rcases hh with ⟨hno, rfl, rfl⟩ | ⟨hok, hne0, rfl, rfl⟩ | ⟨hok, he0, lo, hlb, hlc, hne, hcap, rfl, rfl⟩
      · (with_reducible apply runO_go); simp only [go_sem, *]
        repeat' (first
    | (with_reducible apply run_seq)
    | ((with_reducible apply run_go); simp only [go_sem, *])
    | ((with_reducible apply run_cond_t); (focus (simp only [go_sem, *]; done)))
    | ((with_reducible apply runO_skipF); (focus (simp only [go_sem, *]; rfl)); (focus rfl); (with_reducible apply runO_go); simp only [go_sem, *])
    | ((with_reducible apply run_ret Try.func10 res10 (H' := H)); (focus (simp only [go_sem, *]; rfl)); (focus trivial); (focus (repeat (first | assumption | exact Heap.sub_refl _ | refine Heap.sub_congr ?_ | refine Heap.sub_set ?_ (by assumption) | refine Heap.sub_set2 ?_ (by first | assumption | (simp only [*]; done) | (simp only [Heap.set_none', stH_none, ne_eq, *, not_false_eq_true, and_self]; done)))))))
        rfl
      · (with_reducible apply runO_go); simp only [go_sem, *]
        generalize (rpl (newS p fuel) th).1 = er at *
        repeat' (first
    | (with_reducible apply run_seq)
    | ((with_reducible apply run_go); simp only [go_sem, *])
    | ((with_reducible apply run_cond_t); (focus (simp only [go_sem, *]; done)))
    | ((with_reducible apply runO_skipF); (focus (simp only [go_sem, *]; rfl)); (focus rfl); (with_reducible apply runO_go); simp only [go_sem, *])
    | ((with_reducible apply run_ret Try.func10 res10 (H' := H)); (focus (simp only [go_sem, *]; rfl)); (focus trivial); (focus (repeat (first | assumption | exact Heap.sub_refl _ | refine Heap.sub_congr ?_ | refine Heap.sub_set ?_ (by assumption) | refine Heap.sub_set2 ?_ (by first | assumption | (simp only [*]; done) | (simp only [Heap.set_none', stH_none, ne_eq, *, not_false_eq_true, and_self]; done)))))))
        rfl
      have hokr := ok_rpl th (okN_ok hok)
      have hrl := rpl_len th (newS p fuel)
      have hrr := rpl_right th (okN_ok hok)
      rw [show (newS p fuel).p = p from rfl] at hokr
      clear hok he0
      generalize rpl (newS p fuel) th = r0 at *
      obtain ⟨x1, l, s⟩ := r0
      simp only at hokr hrl hrr
      obtain ⟨hs, hsp⟩ := hokr
      have htl : s.ts.length = p.th.length := by rw [hs.len, hsp]
      have hcap2 : s.ts.length ≤ lo.cap := by rw [htl]; exact hcap
      have hat : AtP (stP K lo s) lo s := stH_at hne hcap2
      have hat2 : AtP (stP K lo (s.stS t)) lo (s.stS t) := stH_at hne (by rw [step_len]; exact hcap2)
      have hsubV : H.sub (stP K lo s) := hsub0.trans (stH_subH hlb hlc)
      have hsubU : H.sub (stP K lo (s.stS t)) := hsub0.trans (stH_subH hlb hlc)
      have hst : stP (stP K lo s) lo (s.stS t) = stP K lo (s.stS t) := stH_stH hne
      clear hsp htl hlb hlc hne hcap hsub0 hcap2
      (with_reducible apply runO_go); simp only [go_sem, *]
      have hfold : RunO Try.prog W 10 99 (fun r H' => r = .v (.bool true)) #[] [] [] (fun _ => .nil) (stP K lo s) → True := fun _ => trivial
      clear hfold
      have q0 := fun H' (h : AtP H' lo s) => mEnabled_call W h t hs
      cases hm : s.may t with
      | false =>
        rw [hm] at q0
        repeat' (first
    | (with_reducible apply run_seq)
    | ((with_reducible apply run_go); simp only [go_sem, *])
    | ((with_reducible apply run_cond_t); (focus (simp only [go_sem, *]; done)))
    | ((with_reducible apply runO_callFG known33); (focus (simp only [go_sem, *]; rfl)); (focus (intro _; simp only [go_sem, *]; exact q0 _ (hat.mono (by (repeat (first | assumption | exact Heap.sub_refl _ | refine Heap.sub_congr ?_ | refine Heap.sub_set ?_ (by assumption) | refine Heap.sub_set2 ?_ (by first | assumption | (simp only [*]; done) | (simp only [Heap.set_none', stH_none, ne_eq, *, not_false_eq_true, and_self]; done)))); done)))); (with_reducible apply runO_go); simp only [go_sem, *])
    | ((with_reducible apply run_ret Try.func10 res10 (H' := stP K lo s)); (focus (simp only [go_sem, *]; rfl)); (focus trivial); (focus (repeat (first | assumption | exact Heap.sub_refl _ | refine Heap.sub_congr ?_ | refine Heap.sub_set ?_ (by assumption) | refine Heap.sub_set2 ?_ (by first | assumption | (simp only [*]; done) | (simp only [Heap.set_none', stH_none, ne_eq, *, not_false_eq_true, and_self]; done)))))))
        rfl
      | true =>
      rw [hm] at q0
      have ht : s.has t = true := by unfold St.may at hm; rw [Bool.and_eq_true] at hm; exact hm.1
      have he := may_err hm
      have f1 := fun H' (h : AtP H' lo s) => races_call W H' lo s h hs l (by omega)
      have hrsl := rsE_len s hs l (by omega)
      have hfil := rsE_filter hrr ht
      have hrx := nxt_right hs ht
      have happ := revE_app hrr hrx
      have k1 := fun H' (h : AtP H' lo s) => mStep_call W H' lo s t h hs
      rw [he, stE_0 he] at k1
      clear hm ht he hs hrx
      generalize s.nxt t = x at *
      generalize rsE s l = rs at *
      repeat' (first
    | (with_reducible apply run_seq)
    | (with_reducible apply run_block)
    | (with_reducible apply run_skip)
    | ((with_reducible apply run_go); simp only [go_sem, *])
    | ((with_reducible apply run_cond_f); (focus (simp only [go_sem, *]; done)))
    | ((with_reducible apply runO_callFG known33); (focus (simp only [go_sem, *]; rfl)); (focus (intro _; simp only [go_sem, *]; exact q0 _ (hat.mono (by (repeat (first | assumption | exact Heap.sub_refl _ | refine Heap.sub_congr ?_ | refine Heap.sub_set ?_ (by assumption) | refine Heap.sub_set2 ?_ (by first | assumption | (simp only [*]; done) | (simp only [Heap.set_none', stH_none, ne_eq, *, not_false_eq_true, and_self]; done)))); done)))); (with_reducible apply runO_go); simp only [go_sem, *])
    | ((with_reducible apply runO_callF known41); simp only [go_sem, *]; refine (f1 _ (hat.mono (by (repeat (first | assumption | exact Heap.sub_refl _ | refine Heap.sub_congr ?_ | refine Heap.sub_set ?_ (by assumption) | refine Heap.sub_set2 ?_ (by first | assumption | (simp only [*]; done) | (simp only [Heap.set_none', stH_none, ne_eq, *, not_false_eq_true, and_self]; done)))); done))).use ?_; (with_reducible apply runO_go); simp only [go_sem, *]))
      refine run_drop (H' := stP K lo s) (Heap.sub_refl _) ?_
      clear q0 f1
      refine run_loop (fun nz ez Hz => ∃ (k : Nat), k ≤ rs.length ∧ nz = rs.length - k ∧ ez 3 = .v (.int .i64 t) ∧ ez 9 = .v (.pointer (some ⟨lo.b, 0, none⟩)) ∧ ez 10 = .list (evsC l) ∧ ez 50 = .list (rcsC rs) ∧ ez 51 = .v (.int .i64 (rs.length : Int)) ∧ ez 52 = .v (.int .i64 (k : Int)) ∧ Coll (stP K lo s) (74) (2) (rcsC (fiT rs t k)) (ez 12) Hz) (rs.length)
          ⟨0, Nat.zero_le _, rfl, (by simp only [go_sem, *]), (by simp only [go_sem, *]), (by simp only [go_sem, *]), (by simp only [go_sem, *]), (by simp only [go_sem, *]), (by simp only [go_sem] <;> rfl), (by simp only [go_sem]; exact .none rfl)⟩ ?_
      rintro nz ez Hz ih ⟨k, zk, rfl, zs3, zs9, zs10, zs50, zs51, zs52, cz⟩
      generalize hzc : ez 12 = dz at cz
      have IHz : Hid _ := ih
      clear ih
      have hsub := cz.sub
      by_cases hlt : k < rs.length
      · have hw := wrap_succ (k := k) (by omega)
        have hsu := fiT_succ rs t hlt
        have hfl := fiT_len rs t k
        by_cases hx : (rs.getD k default).th = t
        · rw [if_pos hx] at hsu
          have HSU : Hid _ := hsu
          clear hsu
          repeat' (first
    | (with_reducible apply run_seq)
    | (with_reducible apply run_block)
    | (with_reducible apply run_skip)
    | ((with_reducible apply run_go); simp only [go_sem, *])
    | ((with_reducible apply run_cond_t); (focus (simp only [go_sem, *]; done)))
    | ((with_reducible apply runO_alloc); (focus (simp only [go_sem, *]; rfl)); intro pb hpb; have hfb := Heap.ne_of_none hpb; (try simp only [Heap.set_none', stH_none] at hpb); (with_reducible apply runO_go); simp only [go_sem, *])
    | ((with_reducible apply runO_store); (focus (simp only [go_sem]; rfl)); (focus (simp only [go_sem, *]; rfl)); (focus (simp only [go_sem, *]; rfl)); (focus (simp only [go_sem, *]; done)); (focus (simp only [go_sem, *]; done)); (focus (simp only [go_sem, *]; done)); (with_reducible apply runO_go); simp only [go_sem, *, Heap.set_set])
    | ((with_reducible apply runO_buildSlice); (focus (simp only [go_sem]; rfl)); (focus (simp only [go_sem]; rfl)); (focus (simp only [go_sem]; rfl)); (focus rfl); (focus rfl); (focus (simp only [go_sem, *]; done)); (focus (simp only [go_sem, *]; done)); (focus decide); (with_reducible apply runO_go); simp only [go_sem, *]))
          refine runO_drop (H' := Hz) (by (repeat (first | assumption | exact Heap.sub_refl _ | refine Heap.sub_congr ?_ | refine Heap.sub_set ?_ (by assumption) | refine Heap.sub_set2 ?_ (by first | assumption | (simp only [*]; done) | (simp only [Heap.set_none', stH_none, ne_eq, *, not_false_eq_true, and_self]; done)))); done) ?_
          (refine runO_coll (t := 66) Try.underlying66 sz74 by74 zr74 rfl (by simp only [go_sem, *]; exact cz) (by simp only [go_sem, *]; rfl) (rcsC_all _) (by simp only [List.mem_singleton] <;> rintro _ rfl <;> rfl) (by (try simp only [List.length_range, List.length_map, List.length_take, List.length_cons, List.length_nil, List.length_append, go_sem]); omega) (by (try simp only [maxLen, List.length_range, List.length_map, List.length_take, List.length_cons, List.length_nil, List.length_append, go_sem]); omega) (fun d1 H1 hc1 => ?_); (with_reducible apply runO_go); simp only [go_sem, *])
          repeat' (first
    | (with_reducible apply run_inBlock)
    | ((with_reducible apply run_go); simp only [go_sem, *]))
          refine IHz.out (rs.length - (k + 1)) _ _ (by omega) ⟨k + 1, by omega, rfl, (by simp only [go_sem, *]), (by simp only [go_sem, *]), (by simp only [go_sem, *]), (by simp only [go_sem, *]), (by simp only [go_sem, *]), (by simp only [go_sem, *]), ?_⟩
          simp only [go_sem]
          rw [HSU.out, rcsC_snoc]
          exact hc1
        · rw [if_neg hx] at hsu
          have HSU : Hid _ := hsu
          clear hsu
          repeat' (first
    | (with_reducible apply run_seq)
    | (with_reducible apply run_block)
    | (with_reducible apply run_inBlock)
    | (with_reducible apply run_skip)
    | ((with_reducible apply run_go); simp only [go_sem, *])
    | ((with_reducible apply run_cond_t); (focus (simp only [go_sem, *]; done)))
    | ((with_reducible apply run_cond_f); (focus (simp only [go_sem, *]; done)))
    | ((with_reducible apply runO_alloc); (focus (simp only [go_sem, *]; rfl)); intro pb hpb; have hfb := Heap.ne_of_none hpb; (try simp only [Heap.set_none', stH_none] at hpb); (with_reducible apply runO_go); simp only [go_sem, *])
    | ((with_reducible apply runO_store); (focus (simp only [go_sem]; rfl)); (focus (simp only [go_sem, *]; rfl)); (focus (simp only [go_sem, *]; rfl)); (focus (simp only [go_sem, *]; done)); (focus (simp only [go_sem, *]; done)); (focus (simp only [go_sem, *]; done)); (with_reducible apply runO_go); simp only [go_sem, *, Heap.set_set]))
          refine run_drop (H' := Hz) (by (repeat (first | assumption | exact Heap.sub_refl _ | refine Heap.sub_congr ?_ | refine Heap.sub_set ?_ (by assumption) | refine Heap.sub_set2 ?_ (by first | assumption | (simp only [*]; done) | (simp only [Heap.set_none', stH_none, ne_eq, *, not_false_eq_true, and_self]; done)))); done) ?_
          refine IHz.out (rs.length - (k + 1)) _ _ (by omega) ⟨k + 1, by omega, rfl, (by simp only [go_sem, *]), (by simp only [go_sem, *]), (by simp only [go_sem, *]), (by simp only [go_sem, *]), (by simp only [go_sem, *]), (by simp only [go_sem, *]), ?_⟩
          rw [HSU.out]
          simp only [go_sem, *]
      · obtain rfl : k = rs.length := by omega
        have hfe : fiT rs t rs.length = racP l x := by unfold fiT; rw [List.take_length]; exact hfil
        rw [hfe] at cz
        refine run_coll (j := 12) (by rw [hzc]; exact cz) ?_
        clear cz hzc hfil hfe IHz
        have hal := evsC_all l
        repeat' (first
    | (with_reducible apply run_seq)
    | (with_reducible apply run_exit rfl)
    | ((with_reducible apply run_go); simp only [go_sem, *])
    | ((with_reducible apply run_cond_f); (focus (simp only [go_sem, *]; done))))
        (with_reducible apply runO_callF known35); simp only [go_sem, *]; refine (k1 _ (hat.mono (by (repeat (first | assumption | exact Heap.sub_refl _ | refine Heap.sub_congr ?_ | refine Heap.sub_set ?_ (by assumption) | refine Heap.sub_set2 ?_ (by first | assumption | (simp only [*]; done) | (simp only [Heap.set_none', stH_none, ne_eq, *, not_false_eq_true, and_self]; done)))); done))).mono (fun d H1 hh1 => ?_); obtain ⟨rfl, rfl⟩ := hh1; (with_reducible apply runO_go); simp only [go_sem, *]
        clear k1 hst hat
        generalize stP K lo (s.stS t) = U at *
        have v1 := fun H => rev_call W H (l ++ [x]) (by simp; omega)
        have v2 := fun H => rev_call W H l (by omega)
        have hln : (revE l).length ≤ 1000000 := revE_len l (by omega)
        have hln2 : (racP l x).length ≤ 1000000 := by have := racP_len l x; omega
        rw [happ] at v1
        have w1 := fun H => like_call W H (racP l x) hln2
        have w2 := fun H => same7_call W H (racP l x) (racP l x) hln2
        rw [decide_eq_true rfl] at w2
        have hdr : (revE l ++ racP l x).drop (revE l).length = racP l x := List.drop_left
        have hle : ((revE l).length : Int) ≤ ((revE l ++ racP l x).length : Int) := by rw [List.length_append]; omega
        have hle2 : (revE l).length ≤ (revE l ++ racP l x).length := by simp
        have hra := rcsC_all (revE l ++ racP l x)
        have htk : (rcsC (revE l ++ racP l x)).take (revE l ++ racP l x).length = rcsC (revE l ++ racP l x) := List.take_of_length_le (by rw [rcsC_length]; exact Nat.le_refl _)
        have HEV : Hid (evsC (l ++ [x]) = evsC l ++ [evC x]) := evsC_snoc l x
        generalize racP l x = rx at *
        generalize revE l = ry at *
        generalize ry ++ rx = rz at *
        repeat' (first
    | ((with_reducible apply run_drawGoP Cl.zero Cl.zero_plain [0, 1, 3, 4, 2, 5, 6, 7] mixed); (focus kernel_rfl); simp only [go_sem, *])
    | (with_reducible apply run_seq)
    | ((with_reducible apply runO_alloc); (focus (simp only [go_sem, *]; rfl)); intro pb hpb; have hfb := Heap.ne_of_none hpb; (try simp only [Heap.set_none', stH_none] at hpb); (with_reducible apply runO_go); simp only [go_sem, *])
    | ((with_reducible apply runO_store); (focus (simp only [go_sem]; rfl)); (focus (simp only [go_sem, *]; rfl)); (focus (simp only [go_sem, *]; rfl)); (focus (simp only [go_sem, *]; done)); (focus (simp only [go_sem, *]; done)); (focus (simp only [go_sem, *]; done)); (with_reducible apply runO_go); simp only [go_sem, *, Heap.set_set])
    | ((with_reducible apply runD_buildSlice); (focus (simp only [go_sem]; rfl)); (focus (simp only [go_sem]; rfl)); (focus (simp only [go_sem]; rfl)); (focus rfl); (focus rfl); (focus (simp only [go_sem, *]; done)); (focus (simp only [go_sem, *]; done)); (focus decide); (with_reducible first | apply runD_go Cl.zero_plain | apply runD_goC); simp only [go_sem, *]))
        generalize pb = p15 at *
        have hc0 : Coll (U.set p15 (.cells (evC x) 55)) 55 4 [] .nil (U.set p15 (.cells (evC x) 55)) := .none rfl
        (refine runD_coll (t := 41) Try.underlying41 sz55 by55 zr55 rfl (by simp only [go_sem, *]; exact hc0) (by simp only [go_sem, *]; rfl) (by simp) (evsC_all _) (by (try simp only [List.length_range, List.length_map, List.length_take, List.length_cons, List.length_nil, List.length_append, go_sem]); omega) (by (try simp only [maxLen, List.length_range, List.length_map, List.length_take, List.length_cons, List.length_nil, List.length_append, go_sem]); omega) (fun d1 H1 hc1 => ?_); (with_reducible first | apply runD_go Cl.zero_plain | apply runD_goC); simp only [go_sem, *])
        have hq15 : H1 p15 = some (.cells (evC x) 55) := hc1.sub _ _ (Heap.set_same _ _ _)
        have hfa := hc1.flat
        (refine runD_coll (t := 41) Try.underlying41 sz55 by55 zr55 rfl (by simp only [go_sem, *]; exact hc1) (by simp only [go_sem, *]; rfl) (by simpa using evsC_all l) (by simp [evC_len]) (by (try simp only [List.length_range, List.length_map, List.length_take, List.length_cons, List.length_nil, List.length_append, go_sem]); omega) (by (try simp only [maxLen, List.length_range, List.length_map, List.length_take, List.length_cons, List.length_nil, List.length_append, go_sem]); omega) (fun d1 H1 hc1 => ?_); (with_reducible first | apply runD_go Cl.zero_plain | apply runD_goC); simp only [go_sem, *])
        have hfl2 := hc1.flat
        rw [List.nil_append, ← HEV.out] at hfl2
        have hsubU2 : U.sub H1 := by have := (Heap.sub_set2 (Heap.sub_refl U) (by assumption : U p15 = none)).trans hc1.sub; exact this
        have hsubH := hsubU.trans hsubU2
        repeat' (first
    | (with_reducible apply run_seq)
    | ((with_reducible apply run_go); simp only [go_sem, *])
    | ((first | (with_reducible apply runA_and) | (with_reducible apply runO_and) | (with_reducible apply runD_and)); (focus (first | assumption | (simp only [go_sem, *]; done) | (simp only [go_sem, *]; assumption))); (try simp only [go_sem, *]))
    | ((with_reducible apply runD_callF known39); (focus rfl); (focus (simp only [go_sem, *]; exact v1 _)); (with_reducible first | apply runD_go Cl.zero_plain | apply runD_goC); simp only [go_sem, *])
    | ((with_reducible apply runO_callF known39); simp only [go_sem, *]; refine (v2 _).use ?_; (with_reducible apply runO_go); simp only [go_sem, *])
    | ((with_reducible apply runO_callFG known38); (focus (simp only [go_sem, *]; rfl)); (focus (intro _; simp only [go_sem, *]; exact w1 _)); (with_reducible apply runO_go); simp only [go_sem, *])
    | ((with_reducible apply runO_callFG known37); (focus (simp only [go_sem, *]; rfl)); (focus (intro _; simp only [go_sem, *]; exact w2 _)); (with_reducible apply runO_go); simp only [go_sem, *])
    | ((with_reducible apply run_ret Try.func10 res10 (H' := H)); (focus (simp only [go_sem, *]; rfl)); (focus trivial); (focus (repeat (first | assumption | exact Heap.sub_refl _ | refine Heap.sub_congr ?_ | refine Heap.sub_set ?_ (by assumption) | refine Heap.sub_set2 ?_ (by first | assumption | (simp only [*]; done) | (simp only [Heap.set_none', stH_none, ne_eq, *, not_false_eq_true, and_self]; done)))))))
        rfl
    · have hl' : (40 : Int) < (th.length : Int) := by omega
      repeat' (first
    | (with_reducible apply run_seq)
    | ((with_reducible apply run_go); simp only [go_sem, *])
    | ((with_reducible apply run_cond_t); (focus (simp only [go_sem, *]; done)))
    | ((with_reducible apply runO_box); (focus (simp only [go_sem, *]; done)); intro pb hpb; have hfb := Heap.ne_of_none hpb; (try simp only [Heap.set_none', stH_none] at hpb); (with_reducible apply runO_go); simp only [go_sem, *])
    | ((with_reducible apply runO_callF known36); simp only [go_sem, *]; refine (c0 _).use ?_; (with_reducible apply runO_go); simp only [go_sem, *])
    | ((with_reducible apply runO_callFG known23); (focus (simp only [go_sem, *]; rfl)); (focus (intro _; simp only [go_sem, *]; exact c1 _)); (with_reducible apply runO_go); simp only [go_sem, *])
    | ((with_reducible apply run_ret Try.func10 res10 (H' := H)); (focus (simp only [go_sem, *]; rfl)); (focus trivial); (focus (repeat (first | assumption | exact Heap.sub_refl _ | refine Heap.sub_congr ?_ | refine Heap.sub_set ?_ (by assumption) | refine Heap.sub_set2 ?_ (by first | assumption | (simp only [*]; done) | (simp only [Heap.set_none', stH_none, ne_eq, *, not_false_eq_true, and_self]; done)))))))
      rfl
  · rw [Bool.not_eq_true] at hf
    rw [hf] at c1
    repeat' (first
    | (with_reducible apply run_seq)
    | ((with_reducible apply run_go); simp only [go_sem, *])
    | ((with_reducible apply run_cond_t); (focus (simp only [go_sem, *]; done)))
    | ((with_reducible apply runO_box); (focus (simp only [go_sem, *]; done)); intro pb hpb; have hfb := Heap.ne_of_none hpb; (try simp only [Heap.set_none', stH_none] at hpb); (with_reducible apply runO_go); simp only [go_sem, *])
    | ((with_reducible apply runO_callF known36); simp only [go_sem, *]; refine (c0 _).use ?_; (with_reducible apply runO_go); simp only [go_sem, *])
    | ((with_reducible apply runO_callFG known23); (focus (simp only [go_sem, *]; rfl)); (focus (intro _; simp only [go_sem, *]; exact c1 _)); (with_reducible apply runO_go); simp only [go_sem, *])
    | ((with_reducible apply run_ret Try.func10 res10 (H' := H)); (focus (simp only [go_sem, *]; rfl)); (focus trivial); (focus (repeat (first | assumption | exact Heap.sub_refl _ | refine Heap.sub_congr ?_ | refine Heap.sub_set ?_ (by assumption) | refine Heap.sub_set2 ?_ (by first | assumption | (simp only [*]; done) | (simp only [Heap.set_none', stH_none, ne_eq, *, not_false_eq_true, and_self]; done)))))))
    all_goals rfl
end Go.Proofs.Ytobdagjdhgjplaa
