/-
  The law of once: no thread of a node is gone into twice.
-/
import Derived.Test.YtcfeklnmampndaaTrI
import Derived.Test.YtcfeklnmampndaaTrK
set_option linter.unusedSimpArgs false
set_option linter.unusedVariables false
namespace Go.Proofs.Ytcfeklnmampndaa
open Go Go.Sn Go.RowKit
-- NONE stH_none

@[go_sem] theorem vcU_eq (s : BitVec 8) : vcU s = .v (.int .u8 (s.toNat : Int)) := rfl
@[go_sem] theorem vcb_eq (b : Bool) : vcb b = .v (.bool b) := rfl
theorem sub_p2 {X : Heap} {pb q : Nat} {c m r : Res} (h : (X.set q m) pb = none) : (X.set q r).sub (((X.set q m).set pb c).set q r) := fun a x ha => by
  obtain ⟨hne, hX⟩ := Heap.set_none.1 h
  by_cases e : a = q
  · subst e
    rw [Heap.set_same] at ha ⊢
    exact ha
  · rw [Heap.set_other _ _ e] at ha ⊢
    have hb : a ≠ pb := fun e2 => by rw [e2, hX] at ha; cases ha
    rw [Heap.set_other _ _ hb, Heap.set_other _ _ e]
    exact ha
theorem sub_p1 {Y : Heap} {pb q1 q2 : Nat} {c d m r : Res} (h : ((Y.set q1 d).set q2 m) pb = none) (hq : q1 ≠ q2) : ((Y.set q1 r).set q2 m).sub ((((Y.set q1 d).set q2 m).set pb c).set q1 r) := by
  rw [Heap.set_comm _ _ _ hq]
  have e2 : (Y.set q1 d).set q2 m = (Y.set q2 m).set q1 d := Heap.set_comm _ _ _ hq
  rw [e2] at h ⊢
  exact sub_p2 h
theorem AtF.none {H K : Heap} {l : TLo} {t : Tr} (h : AtF H K l t) {q : Nat} (hq : K q = none) : H q = none := by
  cases hx : H q with
  | none => rfl
  | some r => rw [h.sub _ _ hx] at hq; cases hq
theorem make0 (W : World) {H K : Heap} {l : TLo} {t : Tr} {c : Int} (h : AtF H K l t) (ho : OkN t c) :
    CallA Try.prog W 13 [pT l, s0, .v (.int .u8 0), .v (.int .i64 0)] K fun r K' => r = .v (.int .i64 (t.mkE [])) ∧ ∃ t', t.Made [] 0#8 0 t' ∧ AtF H K' l t' := makeF W h ho [] ok_nil 0#8 0
theorem once_0 {p : Pg} {fuel : Int} : OnceI (Tr.new p fuel) [] [] := ⟨fun _ _ => rfl, by simp, rfl, fun k x hx => (by cases hx), MOk.nil _, MOk.nil _⟩
theorem fewO_pf {l : List Cl1} (h : fewO l = true) {k : Nat} (hk : k < l.length) : okS (l.getD k default).pf := by
  unfold fewO at h
  rw [Bool.and_eq_true, List.all_eq_true] at h
  have := h.1 (l.getD k default) (by simp [List.getD, hk])
  rw [decide_eq_true_eq] at this
  unfold okS
  omega
theorem fewO_len {l : List Cl1} (h : fewO l = true) : l.length ≤ 100 := by
  unfold fewO at h
  rw [Bool.and_eq_true, decide_eq_true_eq] at h
  exact h.2

set_option maxRecDepth 100000 in
set_option maxHeartbeats 16000000 in
theorem treeOnce_call (W : World) (H : Heap) (p : Pg) (fuel : Int) (list : List Cl1) (hp : p.th.length ≤ 4000000000000000) (hl : list.length ≤ 4000000000000000) :
    CallA Try.prog W 4 [.agg (pgC p), .v (.int .i64 fuel), .list (clsC list)] H fun r H' => r = .v (.bool true) := by
  refine call_in Try.func4 rfl Try.ntmps4 (by simp) ?_
  have c0 := fun H => awake10_call W H
  have c1 := fun H => few_call W H p hp
  have c2 := fun H => fewO_call W H list hl
  by_cases hf : fewP p = true
  rotate_left
  · rw [Bool.not_eq_true] at hf
    rw [hf] at c1
    repeat' (first
    | (with_reducible apply run_seq)
    | ((with_reducible apply run_go); simp only [go_sem, *])
    | ((with_reducible apply run_cond_t); (focus (simp only [go_sem, *]; done)))
    | ((with_reducible apply runO_box); (focus (simp only [go_sem, *]; done)); intro pb hpb; have hfb := Heap.ne_of_none hpb; (try simp only [Heap.set_none', stH_none] at hpb); (with_reducible apply runO_go); simp only [go_sem, *])
    | ((with_reducible apply runO_skipF); (focus (simp only [go_sem, *]; rfl)); (focus rfl); (with_reducible apply runO_go); simp only [go_sem, *])
    | ((with_reducible apply runO_callF known7); simp only [go_sem, *]; refine (c0 _).use ?_; (with_reducible apply runO_go); simp only [go_sem, *])
    | ((with_reducible apply runO_callFG known8); (focus (simp only [go_sem, *]; rfl)); (focus (intro _; simp only [go_sem, *]; exact c1 _)); (with_reducible apply runO_go); simp only [go_sem, *])
    | ((with_reducible apply run_ret Try.func4 res4 (H' := H)); (focus (simp only [go_sem, *]; rfl)); (focus trivial); (focus (repeat (first | assumption | exact Heap.sub_refl _ | refine Heap.sub_congr ?_ | refine Heap.sub_set ?_ (by assumption) | refine Heap.sub_set2 ?_ (by first | assumption | (simp only [*]; done) | (simp only [Heap.set_none', stH_none, ne_eq, *, not_false_eq_true, and_self]; done)))))))
    rfl
  by_cases hg : fewO list = true
  rotate_left
  · rw [Bool.not_eq_true] at hg
    rw [hf] at c1
    rw [hg] at c2
    repeat' (first
    | (with_reducible apply run_seq)
    | ((with_reducible apply run_go); simp only [go_sem, *])
    | ((with_reducible apply run_cond_t); (focus (simp only [go_sem, *]; done)))
    | ((with_reducible apply runO_box); (focus (simp only [go_sem, *]; done)); intro pb hpb; have hfb := Heap.ne_of_none hpb; (try simp only [Heap.set_none', stH_none] at hpb); (with_reducible apply runO_go); simp only [go_sem, *])
    | ((with_reducible apply runO_callF known7); simp only [go_sem, *]; refine (c0 _).use ?_; (with_reducible apply runO_go); simp only [go_sem, *])
    | ((with_reducible apply runO_callFG known8); (focus (simp only [go_sem, *]; rfl)); (focus (intro _; simp only [go_sem, *]; exact c1 _)); (with_reducible apply runO_go); simp only [go_sem, *])
    | ((with_reducible apply runO_callFG known9); (focus (simp only [go_sem, *]; rfl)); (focus (intro _; simp only [go_sem, *]; exact c2 _)); (with_reducible apply runO_go); simp only [go_sem, *])
    | ((with_reducible apply run_ret Try.func4 res4 (H' := H)); (focus (simp only [go_sem, *]; rfl)); (focus trivial); (focus (repeat (first | assumption | exact Heap.sub_refl _ | refine Heap.sub_congr ?_ | refine Heap.sub_set ?_ (by assumption) | refine Heap.sub_set2 ?_ (by first | assumption | (simp only [*]; done) | (simp only [Heap.set_none', stH_none, ne_eq, *, not_false_eq_true, and_self]; done)))))))
    rfl
  rw [hf] at c1
  rw [hg] at c2
  have F := few_of hf
  have HG : Hid _ := hg
  clear hf hg
  repeat' (first
    | (with_reducible apply run_seq)
    | (with_reducible apply run_skip)
    | ((with_reducible apply run_go); simp only [go_sem, *])
    | ((with_reducible apply run_cond_f); (focus (simp only [go_sem, *]; done)))
    | ((with_reducible apply runO_box); (focus (simp only [go_sem, *]; done)); intro pb hpb; have hfb := Heap.ne_of_none hpb; (try simp only [Heap.set_none', stH_none] at hpb); (with_reducible apply runO_go); simp only [go_sem, *])
    | ((with_reducible apply runO_callF known7); simp only [go_sem, *]; refine (c0 _).use ?_; (with_reducible apply runO_go); simp only [go_sem, *])
    | ((with_reducible apply runO_callFG known8); (focus (simp only [go_sem, *]; rfl)); (focus (intro _; simp only [go_sem, *]; exact c1 _)); (with_reducible apply runO_go); simp only [go_sem, *])
    | ((with_reducible apply runO_callFG known9); (focus (simp only [go_sem, *]; rfl)); (focus (intro _; simp only [go_sem, *]; exact c2 _)); (with_reducible apply runO_go); simp only [go_sem, *]))
  clear c0 c1 c2
  generalize pb = p3 at *
  have hs02 : H.sub (H.set p3 (.cells (pgC p) 24)) := Heap.sub_set (Heap.sub_refl _) hpb
  generalize H.set p3 (.cells (pgC p) 24) = H2 at *
  (with_reducible apply runO_callF known10); simp only [go_sem, *]
  refine (newT_call W _ p fuel F (fun c hc => by have := F.code c hc; omega)).mono (fun d1 K hh => ?_)
  rcases hh with ⟨hok, l, hlb, hlm, hne, rfl, hK⟩ | ⟨_, rfl, hK⟩
  rotate_left
  · obtain rfl := hK.symm
    (with_reducible apply runO_go); simp only [go_sem, *]
    repeat' (first
    | (with_reducible apply run_seq)
    | ((with_reducible apply run_go); simp only [go_sem, *])
    | ((with_reducible apply run_cond_t); (focus (simp only [go_sem, *]; done)))
    | ((with_reducible apply run_ret Try.func4 res4 (H' := H)); (focus (simp only [go_sem, *]; rfl)); (focus trivial); (focus (repeat (first | assumption | exact Heap.sub_refl _ | refine Heap.sub_congr ?_ | refine Heap.sub_set ?_ (by assumption) | refine Heap.sub_set2 ?_ (by first | assumption | (simp only [*]; done) | (simp only [Heap.set_none', stH_none, ne_eq, *, not_false_eq_true, and_self]; done)))))))
    rfl
  have h0 : AtF H2 K l (Tr.new p fuel) := by rw [hK]; exact newT_F (Heap.sub_refl _) hlb hlm hne
  have o0 := okN_new hok (fun c hc => by have := F.code c hc; omega)
  clear hK hlb hlm hne hok hfb hpb
  (with_reducible apply runO_go); simp only [go_sem, *]
  repeat' (first
    | (with_reducible apply run_seq)
    | (with_reducible apply run_skip)
    | ((with_reducible apply run_go); simp only [go_sem, *])
    | ((with_reducible apply run_cond_f); (focus (simp only [go_sem, *]; done))))
  (with_reducible apply runO_callF known13); simp only [go_sem, *]; refine (make0 W h0 o0).mono (fun d1 K1 hh => ?_); obtain ⟨rfl, t1, hm1, h1⟩ := hh; (with_reducible apply runO_go); simp only [go_sem, *]
  have o1 := o0.made hm1
  have n1 := once_made once_0 hm1
  clear hm1 h0 o0
  repeat' (first
    | (with_reducible apply run_seq)
    | (with_reducible apply run_block)
    | ((with_reducible apply run_go); simp only [go_sem, *])
    | ((with_reducible apply runO_makeMap); intro pb hpb; have hfb := Heap.ne_of_none hpb; (try simp only [Heap.set_none', stH_none] at hpb); (with_reducible apply runO_go); simp only [go_sem, *]))
  rename_i pm1 hpm1 hfb1
  generalize pb = pm2 at *
  have hF : AtF ((H2.set pm1 (.map (entC kcK vcb []))).set pm2 (.map (entC kcS vcU []))) ((K1.set pm1 (.map [])).set pm2 (.map [])) l t1 := (h1.fresh (.map []) hpm1).fresh (.map []) (by rw [Heap.set_none]; exact ⟨hpb.1.1, hpb.2⟩)
  have hne12 : pm1 ≠ pm2 := hpb.1.2
  have hs2 : ∀ dd mm, H2.sub ((H2.set pm1 (.map (entC kcK vcb dd))).set pm2 (.map (entC kcS vcU mm))) := fun dd mm => by
    have g1 : H2 pm1 = none := h1.none hpm1
    have g2 : H2 pm2 = none := h1.none hpb.2
    exact sub_out (sub_out (Heap.sub_refl _) g1) g2
  clear hfb hfb1 hpb hpm1 h1
  refine run_loop (fun nq eq Hq => ∃ (k : Nat) (t : Tr) (dd : (List (Kp × Bool))) (mm : (List (Ky × BitVec 8))), k ≤ list.length ∧ nq = list.length - k ∧ (AtF ((H2.set pm1 (.map (entC kcK vcb dd))).set pm2 (.map (entC kcS vcU mm))) Hq l t ∧ OkN t (k : Int) ∧ OnceI t dd mm) ∧ eq 7 = pT l ∧ eq 9 = .v (.map (some pm1)) ∧ eq 10 = .v (.map (some pm2)) ∧ eq 46 = .list (clsC list) ∧ eq 47 = .v (.int .i64 (list.length : Int)) ∧ eq 48 = .v (.int .i64 (k : Int)) ∧ True) (list.length)
      ⟨0, t1, [], [], Nat.zero_le _, rfl, ⟨hF, o1, n1⟩, (by simp only [go_sem, *]), (by simp only [go_sem, *]), (by simp only [go_sem, *]), (by simp only [go_sem, *]), (by simp only [go_sem, *]), (by simp only [go_sem] <;> rfl), trivial⟩ ?_
  rintro nq eq Hq ih ⟨k, t, dd, mm, qk, rfl, vq0, qs7, qs9, qs10, qs46, qs47, qs48, -⟩
  have IHq : Hid _ := ih
  clear ih
  have Iq0 : Hid _ := vq0
  clear vq0
  obtain ⟨hA, hO, hI⟩ := Iq0.out
  have hl100 := fewO_len HG.out
  have hsA : H.sub Hq := hs02.trans ((hs2 dd mm).trans hA.sub)
  by_cases hlt : k < list.length
  · have hw := wrap_succ (k := k) (by omega)
    have hpf := fewO_pf HG.out hlt
    have hal := clsC_all list
    generalize ho : list.getD k default = o at *
    obtain ⟨kd, n, pf, st⟩ := o
    replace hpf : okS pf := hpf
    clear hF o1 n1 Iq0
    by_cases k1 : kd = 1
    · subst k1
      repeat' (first
    | (with_reducible apply run_seq)
    | (with_reducible apply run_block)
    | (with_reducible apply run_skip)
    | ((with_reducible apply run_go); simp only [go_sem, *])
    | ((with_reducible apply run_cond_t); (focus (simp only [go_sem, *]; done)))
    | ((with_reducible apply runO_alloc); (focus (simp only [go_sem, *]; rfl)); intro pb hpb; have hfb := Heap.ne_of_none hpb; (try simp only [Heap.set_none', stH_none] at hpb); (with_reducible apply runO_go); simp only [go_sem, *])
    | ((with_reducible apply runO_store); (focus (simp only [go_sem]; rfl)); (focus (simp only [go_sem, *]; rfl)); (focus (simp only [go_sem, *]; rfl)); (focus (simp only [go_sem, *]; done)); (focus (simp only [go_sem, *]; done)); (focus (simp only [go_sem, *]; done)); (with_reducible apply runO_go); simp only [go_sem, *, Heap.set_set]))
      have hpbB := hA.none hpb
      have hF2 := hA.fresh (.cells [.v (.int .i64 1), .v (.int .i64 n), .v (.string (strL pf)), .v (.int .u8 (st.toNat : Int))] 40) hpb
      (with_reducible apply runO_callF known13); simp only [go_sem, *]; refine (makeF W hF2 hO pf hpf st n).mono (fun d1 K2 hh => ?_); obtain ⟨rfl, t2, hm, hF3⟩ := hh; (with_reducible apply runO_go); simp only [go_sem, *]
      have HN : Hid _ := And.intro (hF3.less (Heap.sub_set (Heap.sub_refl _) hpbB)) (And.intro ((hO.made hm).more (by omega : (k : Int) ≤ ((k + 1 : Nat) : Int))) (once_made hI hm))
      clear hF2 hF3 hm hA hO hI
      repeat' (first
    | (with_reducible apply run_inBlock)
    | ((with_reducible apply run_go); simp only [go_sem, *]))
      refine IHq.out (list.length - (k + 1)) _ _ (by omega) ⟨k + 1, t2, dd, mm, by omega, rfl, HN.out, (by simp only [go_sem, *]), (by simp only [go_sem, *]), (by simp only [go_sem, *]), (by simp only [go_sem, *]), (by simp only [go_sem, *]), (by simp only [go_sem, *]), trivial⟩
    by_cases k2 : kd = 2
    · subst k2
      repeat' (first
    | (with_reducible apply run_seq)
    | (with_reducible apply run_block)
    | (with_reducible apply run_skip)
    | ((with_reducible apply run_go); simp only [go_sem, *])
    | ((with_reducible apply run_cond_t); (focus (simp only [go_sem, *]; done)))
    | ((with_reducible apply run_cond_f); (focus (simp only [go_sem, *]; done)))
    | ((with_reducible apply runO_alloc); (focus (simp only [go_sem, *]; rfl)); intro pb hpb; have hfb := Heap.ne_of_none hpb; (try simp only [Heap.set_none', stH_none] at hpb); (with_reducible apply runO_go); simp only [go_sem, *])
    | ((with_reducible apply runO_store); (focus (simp only [go_sem]; rfl)); (focus (simp only [go_sem, *]; rfl)); (focus (simp only [go_sem, *]; rfl)); (focus (simp only [go_sem, *]; done)); (focus (simp only [go_sem, *]; done)); (focus (simp only [go_sem, *]; done)); (with_reducible apply runO_go); simp only [go_sem, *, Heap.set_set]))
      have hpbB := hA.none hpb
      have hF2 := hA.fresh (.cells [.v (.int .i64 2), .v (.int .i64 n), .v (.string (strL pf)), .v (.int .u8 (st.toNat : Int))] 40) hpb
      (with_reducible apply runO_callF known15); simp only [go_sem, *]; refine (markF W hF2 hO pf hpf st).mono (fun d1 K2 hh => ?_); obtain ⟨rfl, hF3⟩ := hh; (with_reducible apply runO_go); simp only [go_sem, *]
      have HO : Hid _ := (hO.mark pf st).more (by omega : (k : Int) ≤ ((k + 1 : Nat) : Int))
      by_cases hE : t.mrE pf = 0
      · have HI : Hid _ := once_mark hI hpf (s := st) hE
        have q2 : K2 pm2 = some (.map (entC kcS vcU mm)) := hF3.sub _ _ (by rw [Heap.set_other _ _ (fun e => by rw [← e] at hpbB; rw [Heap.set_same] at hpbB; cases hpbB), Heap.set_same])
        have qb := hF3.sub _ _ (Heap.set_same _ pb _)
        have hmo := hI.mok
        have hF4 := (hF3.beside (.map (entC kcS vcU (putM mm pf ((getM mm pf).getD 0#8 ||| st)))) (p := pm2) (by rw [Heap.set_other _ _ (fun e => by rw [← e] at hpbB; rw [Heap.set_same] at hpbB; cases hpbB), Heap.set_same])).less (sub_p2 hpbB)
        have HF : Hid _ := hF4
        clear hF2 hF3 hF4 hA hO hI
        repeat' (first
    | ((with_reducible apply run_go); simp only [go_sem, *])
    | ((with_reducible apply run_cond_t); (focus (simp only [go_sem, *]; done))))
        refine runO_lookupM mtMark (b := pm2) (l := mm) (k := pf) (by simp only [go_sem, *]) (by simp only [go_sem, *]) hmo (by simp only [go_sem, *]; rfl) hpf ?_
        (with_reducible apply runO_go); simp only [go_sem, *]
        skip
        refine runO_mapUpdateM mtMark (b := pm2) (l := mm) (k := pf) (v := (getM mm pf).getD 0#8 ||| st) (by simp only [go_sem, *]) (by simp only [go_sem, *]) hmo (by simp only [go_sem, *]; rfl) hpf (by first | (simp only [go_sem, *]; done) | (simp only [go_sem, *]; rfl)) ?_
        (with_reducible apply runO_go); simp only [go_sem, *]
        repeat' (first
    | (with_reducible apply run_inBlock)
    | ((with_reducible apply run_go); simp only [go_sem, *]))
        refine IHq.out (list.length - (k + 1)) _ _ (by omega) ⟨k + 1, t.mark pf st, dd, putM mm pf ((getM mm pf).getD 0#8 ||| st), by omega, rfl, ⟨HF.out, HO.out, HI.out⟩, (by simp only [go_sem, *]), (by simp only [go_sem, *]), (by simp only [go_sem, *]), (by simp only [go_sem, *]), (by simp only [go_sem, *]), (by simp only [go_sem, *]), trivial⟩
      · have hte := once_mark6 (s := st) hE
        rw [hte] at hF3
        have HF : Hid _ := And.intro (hF3.less (Heap.sub_set (Heap.sub_refl _) hpbB)) (And.intro (hO.more (by omega : (k : Int) ≤ ((k + 1 : Nat) : Int))) hI)
        clear hF2 hF3 hA hO hI hte
        repeat' (first
    | (with_reducible apply run_inBlock)
    | (with_reducible apply run_skip)
    | ((with_reducible apply run_go); simp only [go_sem, *])
    | ((with_reducible apply run_cond_f); (focus (simp only [go_sem, *]; done))))
        refine IHq.out (list.length - (k + 1)) _ _ (by omega) ⟨k + 1, t, dd, mm, by omega, rfl, HF.out, (by simp only [go_sem, *]), (by simp only [go_sem, *]), (by simp only [go_sem, *]), (by simp only [go_sem, *]), (by simp only [go_sem, *]), (by simp only [go_sem, *]), trivial⟩
    by_cases k3 : kd = 3
    rotate_left
    · repeat' (first
    | (with_reducible apply run_seq)
    | (with_reducible apply run_block)
    | (with_reducible apply run_inBlock)
    | (with_reducible apply run_skip)
    | ((with_reducible apply run_go); simp only [go_sem, *])
    | ((with_reducible apply run_cond_t); (focus (simp only [go_sem, *]; done)))
    | ((with_reducible apply run_cond_f); (focus (simp only [go_sem, *]; done)))
    | ((with_reducible apply runO_alloc); (focus (simp only [go_sem, *]; rfl)); intro pb hpb; have hfb := Heap.ne_of_none hpb; (try simp only [Heap.set_none', stH_none] at hpb); (with_reducible apply runO_go); simp only [go_sem, *])
    | ((with_reducible apply runO_store); (focus (simp only [go_sem]; rfl)); (focus (simp only [go_sem, *]; rfl)); (focus (simp only [go_sem, *]; rfl)); (focus (simp only [go_sem, *]; done)); (focus (simp only [go_sem, *]; done)); (focus (simp only [go_sem, *]; done)); (with_reducible apply runO_go); simp only [go_sem, *, Heap.set_set]))
      have hpbB := hA.none hpb
      have hF2 := hA.fresh (.cells [.v (.int .i64 kd), .v (.int .i64 n), .v (.string (strL pf)), .v (.int .u8 (st.toNat : Int))] 40) hpb
      have HF : Hid _ := And.intro (hF2.less (Heap.sub_set (Heap.sub_refl _) hpbB)) (And.intro (hO.more (by omega : (k : Int) ≤ ((k + 1 : Nat) : Int))) hI)
      clear hF2 hA hO hI
      refine IHq.out (list.length - (k + 1)) _ _ (by omega) ⟨k + 1, t, dd, mm, by omega, rfl, HF.out, (by simp only [go_sem, *]), (by simp only [go_sem, *]), (by simp only [go_sem, *]), (by simp only [go_sem, *]), (by simp only [go_sem, *]), (by simp only [go_sem, *]), trivial⟩
    subst k3
    repeat' (first
    | (with_reducible apply run_seq)
    | (with_reducible apply run_block)
    | (with_reducible apply run_skip)
    | ((with_reducible apply run_go); simp only [go_sem, *])
    | ((with_reducible apply run_cond_t); (focus (simp only [go_sem, *]; done)))
    | ((with_reducible apply run_cond_f); (focus (simp only [go_sem, *]; done)))
    | ((with_reducible apply runO_alloc); (focus (simp only [go_sem, *]; rfl)); intro pb hpb; have hfb := Heap.ne_of_none hpb; (try simp only [Heap.set_none', stH_none] at hpb); (with_reducible apply runO_go); simp only [go_sem, *])
    | ((with_reducible apply runO_store); (focus (simp only [go_sem]; rfl)); (focus (simp only [go_sem, *]; rfl)); (focus (simp only [go_sem, *]; rfl)); (focus (simp only [go_sem, *]; done)); (focus (simp only [go_sem, *]; done)); (focus (simp only [go_sem, *]; done)); (with_reducible apply runO_go); simp only [go_sem, *, Heap.set_set]))
    have hpbB := hA.none hpb
    have hF2 := hA.fresh (.cells [.v (.int .i64 3), .v (.int .i64 n), .v (.string (strL pf)), .v (.int .u8 (st.toNat : Int))] 40) hpb
    (with_reducible apply runO_callF known17); simp only [go_sem, *]; refine (claimF W hF2 hO (by omega : (k : Int) ≤ 1000000) pf hpf n).mono (fun d1 K2 hh => ?_); obtain ⟨rfl, hF3⟩ := hh; (with_reducible apply runO_go); simp only [go_sem, *]
    by_cases hE : (t.clR pf n).2.2 = 0
    rotate_left
    · have hte := clm_6 hE
      rw [hte] at hF3
      have HF : Hid _ := And.intro (hF3.less (Heap.sub_set (Heap.sub_refl _) hpbB)) (And.intro (hO.more (by omega : (k : Int) ≤ ((k + 1 : Nat) : Int))) hI)
      clear hF2 hF3 hA hO hI hte
      repeat' (first
    | (with_reducible apply run_seq)
    | (with_reducible apply run_exit rfl)
    | ((with_reducible apply run_go); simp only [go_sem, *])
    | ((with_reducible apply run_cond_t); (focus (simp only [go_sem, *]; done))))
      refine IHq.out (list.length - (k + 1)) _ _ (by omega) ⟨k + 1, t, dd, mm, by omega, rfl, HF.out, (by simp only [go_sem, *]), (by simp only [go_sem, *]), (by simp only [go_sem, *]), (by simp only [go_sem, *]), (by simp only [go_sem, *]), (by simp only [go_sem, *]), trivial⟩
    have hO2 : OkN (t.clm pf n) ((k + 1 : Nat) : Int) := (hO.clm pf n).more (by omega)
    obtain ⟨ca0, catE, cdone, cmay, csl, cmk, cok, cch, cnx⟩ := once_claim hI hO hpf hE
    rw [← catE] at cmay
    have hmo := hI.mok
    have hdok := hI.dok
    clear hF2 hA hO hI catE
    generalize t.clm pf n = t2 at *
    generalize (t.clR pf n).1 = x at *
    generalize (t.clR pf n).2.1 = ch at *
    have qb := hF3.sub _ _ (Heap.set_same _ pb _)
    have n1 : pm1 ≠ pb := fun e => by rw [← e] at hpbB; rw [Heap.set_other _ _ hne12, Heap.set_same] at hpbB; cases hpbB
    have n2 : pm2 ≠ pb := fun e => by rw [← e] at hpbB; rw [Heap.set_same] at hpbB; cases hpbB
    have q2 : K2 pm2 = some (.map (entC kcS vcU mm)) := hF3.sub _ _ (by rw [Heap.set_other _ _ n2, Heap.set_same])
    have q1 : K2 pm1 = some (.map (entC kcK vcb dd)) := hF3.sub _ _ (by rw [Heap.set_other _ _ n1, Heap.set_other _ _ hne12, Heap.set_same])
    have HF : Hid _ := (hF3.beside (.map (entC kcK vcb (putM dd (pf, x) true))) (p := pm1) (by rw [Heap.set_other _ _ n1, Heap.set_other _ _ hne12, Heap.set_same])).less (sub_p1 hpbB hne12)
    have HNX : Hid _ := cnx
    have hsK : H.sub K2 := (hs02.trans ((hs2 dd mm).trans (Heap.sub_set (Heap.sub_refl _) hpbB))).trans hF3.sub
    clear cnx hpbB n1 n2
    repeat' (first
    | (with_reducible apply run_seq)
    | (with_reducible apply run_skip)
    | ((with_reducible apply run_go); simp only [go_sem, *])
    | ((with_reducible apply run_cond_f); (focus (simp only [go_sem, *]; done))))
    (with_reducible apply runO_callF known24); simp only [go_sem, *]
    refine (at_call W K2 l t2 hF3.ht hO2.ok pf hpf).mono (fun d1 K3 hh => ?_)
    rcases hh with ⟨h0, _⟩ | ⟨_, lo, hlb, hlc, hne, hcap, rfl, rfl⟩
    · exact absurd ca0 h0
    obtain ⟨hs, hsp⟩ := hO2.ok.st pf
    have hcap2 : (t2.at pf).2.2.ts.length ≤ lo.cap := by rw [hs.len, hsp]; exact hcap
    have hat : AtP (stP K2 lo (t2.at pf).2.2) lo (t2.at pf).2.2 := stH_at hne hcap2
    have hsub : K2.sub (stP K2 lo (t2.at pf).2.2) := stH_subH hlb hlc
    have cE := mEnabled_call W hat x hs
    rw [cmay] at cE
    have cA := asleep_call W (stP K2 lo (t2.at pf).2.2) l t2 (hF3.ht.mono hsub) pf hpf
    have cH1 := fun H => setHas_call W H (t2.sl pf) x
    rw [csl] at cH1
    have cH2 := fun H => setHas_call W H ((getM mm pf).getD 0#8) x
    rw [cmk] at cH2
    have cL := fun H => setAll_call W H ch
    have qb3 := hsub _ _ qb
    have q13 := hsub _ _ q1
    have q23 := hsub _ _ q2
    generalize (t2.at pf).2.1 = evs at *
    generalize stP K2 lo (t2.at pf).2.2 = K3 at *
    clear hat hcap2 hs hsp hlb hlc hne hcap cmay ca0 csl cmk
    (with_reducible apply runO_go); simp only [go_sem, *]
    repeat' (first
    | (with_reducible apply run_seq)
    | ((with_reducible apply run_go); simp only [go_sem, *]))
    (with_reducible apply runO_lookupMG mtDone (b := pm1) (l := dd) (k := (pf, x)))
    · simp only [go_sem, *]; rfl
    · simp only [go_sem, *]
    · simp only [go_sem, *]
    · exact hdok
    · simp only [go_sem, *]; rfl
    · exact cok
    rw [cdone]
    (with_reducible apply runO_go); simp only [go_sem, *]
    repeat' (first
    | ((with_reducible apply runO_callFG known33); (focus (simp only [go_sem, *]; rfl)); (focus (intro _; simp only [go_sem, *]; exact cE)); (with_reducible apply runO_go); simp only [go_sem, *])
    | ((with_reducible apply runO_callFG known28); (focus (simp only [go_sem, *]; rfl)); (focus (intro _; simp only [go_sem, *]; exact cA)); (with_reducible apply runO_go); simp only [go_sem, *])
    | ((with_reducible apply runO_callFG known34); (focus (simp only [go_sem, *]; rfl)); (focus (intro _; simp only [go_sem, *]; exact cH1 _)); (with_reducible apply runO_go); simp only [go_sem, *]))
    (with_reducible apply runO_lookupMG mtMark (b := pm2) (l := mm) (k := pf))
    · simp only [go_sem, *]; rfl
    · simp only [go_sem, *]
    · simp only [go_sem, *]
    · exact hmo
    · simp only [go_sem, *]; rfl
    · exact hpf
    (with_reducible apply runO_go); simp only [go_sem, *]
    repeat' (first
    | (with_reducible apply run_seq)
    | (with_reducible apply run_block)
    | (with_reducible apply run_skip)
    | ((with_reducible apply run_go); simp only [go_sem, *])
    | ((with_reducible apply run_cond_f); (focus (simp only [go_sem, *]; done)))
    | ((with_reducible apply runO_callFG known34); (focus (simp only [go_sem, *]; rfl)); (focus (intro _; simp only [go_sem, *]; exact cH2 _)); (with_reducible apply runO_go); simp only [go_sem, *])
    | ((with_reducible apply runO_callF known20); simp only [go_sem, *]; refine (cL _).use ?_; (with_reducible apply runO_go); simp only [go_sem, *]))
    refine run_drop hsub ?_
    have hL8 := allB_len ch 8
    have hmem : ∀ y, y ∈ allB ch 8 → hasE ch y = true := fun y hy => (mem_allB ch y).1 hy
    generalize allB ch 8 = L at *
    clear cE cA cH1 cH2 cL qb3 q13 q23 hsub K3
    refine run_loop (fun nb eb Hb => ∃ (j : Nat), j ≤ L.length ∧ nb = L.length - j ∧ eb 7 = pT l ∧ eb 9 = .v (.map (some pm1)) ∧ eb 10 = .v (.map (some pm2)) ∧ eb 12 = .v (.pointer (some ⟨pb, 0, none⟩)) ∧ eb 13 = .v (.int .i64 x) ∧ eb 46 = .list (clsC list) ∧ eb 47 = .v (.int .i64 (list.length : Int)) ∧ eb 48 = .v (.int .i64 (k : Int)) ∧ eb 136 = .list (intsC L) ∧ eb 137 = .v (.int .i64 (L.length : Int)) ∧ eb 138 = .v (.int .i64 (j : Int)) ∧ K2 = Hb) (L.length)
        ⟨0, Nat.zero_le _, rfl, (by simp only [go_sem, *]), (by simp only [go_sem, *]), (by simp only [go_sem, *]), (by simp only [go_sem, *]), (by simp only [go_sem, *]), (by simp only [go_sem, *]), (by simp only [go_sem, *]), (by simp only [go_sem, *]), (by simp only [go_sem, *]), (by simp only [go_sem, *]), (by simp only [go_sem] <;> rfl), rfl⟩ ?_
    rintro nb eb Hb ih ⟨j, bk, rfl, bs7, bs9, bs10, bs12, bs13, bs46, bs47, bs48, bs136, bs137, bs138, rfl⟩
    have IHb : Hid _ := ih
    clear ih
    by_cases hj : j < L.length
    · have hwj := wrap_succ (k := j) (by omega)
      have hy := hmem (L.getD j default) (by simp [List.getD, hj])
      generalize hyd : L.getD j default = y at *
      have cA := asleep_call W K2 l t2 hF3.ht pf hpf
      have cH := fun H => setHas_call W H (t2.sl pf) y
      have hyr := has_in hy
      have cok2 : okPr (pf, y) := ⟨hpf, hyr.1, by show y ≤ 8; omega⟩
      cases hsy : hasE (t2.sl pf) y with
      | true =>
        rw [hsy] at cH
        repeat' (first
    | (with_reducible apply run_seq)
    | (with_reducible apply run_block)
    | (with_reducible apply run_inBlock)
    | (with_reducible apply run_skip)
    | ((with_reducible apply run_go); simp only [go_sem, *])
    | ((with_reducible apply run_cond_t); (focus (simp only [go_sem, *]; done)))
    | ((with_reducible apply run_cond_f); (focus (simp only [go_sem, *]; done)))
    | ((with_reducible apply runO_skipF); (focus (simp only [go_sem, *]; rfl)); (focus rfl); (with_reducible apply runO_go); simp only [go_sem, *])
    | ((with_reducible apply runO_callF known28); simp only [go_sem, *]; refine (cA).use ?_; (with_reducible apply runO_go); simp only [go_sem, *])
    | ((with_reducible apply runO_callF known34); simp only [go_sem, *]; refine (cH _).use ?_; (with_reducible apply runO_go); simp only [go_sem, *]))
        refine IHb.out (L.length - (j + 1)) _ _ (by omega) ⟨j + 1, by omega, rfl, (by simp only [go_sem, *]), (by simp only [go_sem, *]), (by simp only [go_sem, *]), (by simp only [go_sem, *]), (by simp only [go_sem, *]), (by simp only [go_sem, *]), (by simp only [go_sem, *]), (by simp only [go_sem, *]), (by simp only [go_sem, *]), (by simp only [go_sem, *]), (by simp only [go_sem, *]), rfl⟩
      | false =>
        have hd := cch y hy hsy
        rw [hsy] at cH
        repeat' (first
    | (with_reducible apply run_seq)
    | (with_reducible apply run_block)
    | (with_reducible apply run_skip)
    | ((with_reducible apply run_go); simp only [go_sem, *])
    | ((with_reducible apply run_cond_t); (focus (simp only [go_sem, *]; done)))
    | ((with_reducible apply runO_callF known28); simp only [go_sem, *]; refine (cA).use ?_; (with_reducible apply runO_go); simp only [go_sem, *])
    | ((with_reducible apply runO_callF known34); simp only [go_sem, *]; refine (cH _).use ?_; (with_reducible apply runO_go); simp only [go_sem, *]))
        (with_reducible apply runO_lookupMG mtDone (b := pm1) (l := dd) (k := (pf, y)))
        · simp only [go_sem, *]; rfl
        · simp only [go_sem, *]
        · simp only [go_sem, *]
        · exact hdok
        · simp only [go_sem, *]; rfl
        · exact cok2
        rw [hd]
        (with_reducible apply runO_go); simp only [go_sem, *]
        repeat' (first
    | (with_reducible apply run_inBlock)
    | (with_reducible apply run_skip)
    | ((with_reducible apply run_go); simp only [go_sem, *])
    | ((with_reducible apply run_cond_f); (focus (simp only [go_sem, *]; done))))
        refine IHb.out (L.length - (j + 1)) _ _ (by omega) ⟨j + 1, by omega, rfl, (by simp only [go_sem, *]), (by simp only [go_sem, *]), (by simp only [go_sem, *]), (by simp only [go_sem, *]), (by simp only [go_sem, *]), (by simp only [go_sem, *]), (by simp only [go_sem, *]), (by simp only [go_sem, *]), (by simp only [go_sem, *]), (by simp only [go_sem, *]), (by simp only [go_sem, *]), rfl⟩
    · obtain rfl : j = L.length := by omega
      repeat' (first
    | (with_reducible apply run_seq)
    | (with_reducible apply run_exit rfl)
    | ((with_reducible apply run_go); simp only [go_sem, *])
    | ((with_reducible apply run_cond_f); (focus (simp only [go_sem, *]; done))))
      refine runO_mapUpdateM mtDone (b := pm1) (l := dd) (k := (pf, x)) (v := true) (by simp only [go_sem, *]) (by simp only [go_sem, *]) hdok (by simp only [go_sem, *]; rfl) cok (by first | (simp only [go_sem, *]; done) | (simp only [go_sem, *]; rfl)) ?_
      (with_reducible apply runO_go); simp only [go_sem, *]
      repeat' (first
    | (with_reducible apply run_inBlock)
    | ((with_reducible apply run_go); simp only [go_sem, *]))
      refine IHq.out (list.length - (k + 1)) _ _ (by omega) ⟨k + 1, t2, putM dd (pf, x) true, mm, by omega, rfl, ⟨HF.out, hO2, HNX.out⟩, (by simp only [go_sem, *]), (by simp only [go_sem, *]), (by simp only [go_sem, *]), (by simp only [go_sem, *]), (by simp only [go_sem, *]), (by simp only [go_sem, *]), trivial⟩
  · obtain rfl : k = list.length := by omega
    have hcl := hI.cnt
    have c1 := claims_call W Hq l t hA.ht
    have q1 : Hq pm1 = some (.map (entC kcK vcb dd)) := hA.sub _ _ (by rw [Heap.set_other _ _ hne12, Heap.set_same])
    have hen : (entC kcK vcb dd).length = dd.length := entC_length ..
    rw [hcl] at c1
    repeat' (first
    | (with_reducible apply run_seq)
    | (with_reducible apply run_exit rfl)
    | ((with_reducible apply run_go); simp only [go_sem, *])
    | ((with_reducible apply run_cond_f); (focus (simp only [go_sem, *]; done)))
    | ((with_reducible apply runO_callF known30); simp only [go_sem, *]; refine (c1).use ?_; (with_reducible apply runO_go); simp only [go_sem, *])
    | ((with_reducible apply run_ret Try.func4 res4 (H' := H)); (focus (simp only [go_sem, *]; rfl)); (focus trivial); (focus (repeat (first | assumption | exact Heap.sub_refl _ | refine Heap.sub_congr ?_ | refine Heap.sub_set ?_ (by assumption) | refine Heap.sub_set2 ?_ (by first | assumption | (simp only [*]; done) | (simp only [Heap.set_none', stH_none, ne_eq, *, not_false_eq_true, and_self]; done)))))))
    rfl
end Go.Proofs.Ytcfeklnmampndaa
