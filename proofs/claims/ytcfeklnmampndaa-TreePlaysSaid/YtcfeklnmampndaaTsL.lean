/-
  The stage's theorem: in every order of calls a tree tells what the document's does.
-/
import Derived.Test.YtcfeklnmampndaaTsK
import Derived.Test.YtcfeklnmampndaaTrN
set_option linter.unusedSimpArgs false
set_option linter.unusedVariables false
namespace Go.Proofs.Ytcfeklnmampndaa
open Go Go.Sn Go.RowKit
-- NONE stH_none

theorem both_new {H2 K : Heap} {p : Pg} {fuel : Int} {l : TLo} {lo : Lo} {nb : Nat} (h0 : AtF H2 K l (Tr.new p fuel)) (hok : okN p fuel = true) (hlb : K lo.b = none) (hlc : K lo.c = none) (hne : lo.b ≠ lo.c) (hcap : p.th.length ≤ lo.cap) (hn1 : nb ≠ lo.b) (hn2 : nb ≠ lo.c) (hn3 : K nb = none) :
    Both H2 ((stR K lo (newS p fuel)).set nb (.cells [.v (.pointer (some ⟨lo.b, 0, none⟩)), .nil, .v (.int .i64 0)] 38)) l (Tr.new p fuel) nb ⟨lo, newS p fuel, [], .nil, 0⟩ := by
  have hos := okN_ok hok
  have hcap2 : (newS p fuel).ts.length ≤ lo.cap := by rw [hos.len]; exact hcap
  have hat : AtR (stR K lo (newS p fuel)) lo (newS p fuel) := stH_at hne hcap2
  have hnb : stR K lo (newS p fuel) nb = none := (stH_other hn1 hn2).trans hn3
  have hs : (stR K lo (newS p fuel)).sub ((stR K lo (newS p fuel)).set nb (.cells [.v (.pointer (some ⟨lo.b, 0, none⟩)), .nil, .v (.int .i64 0)] 38)) := Heap.sub_set (Heap.sub_refl _) hnb
  refine Both2.swap ⟨K, ⟨⟨Heap.set_same _ _ _, hat.mono hs, hos, .inl ⟨rfl, rfl⟩, fun x hx => (by cases hx), fun x hx => (by cases hx), fun x hx => (by cases hx)⟩, (stH_subH hlb hlc).trans hs, fun q hq => ?_, ?_, ?_⟩, h0⟩
  · simp only [dbs, rb, List.append_nil, List.flatMap_nil, List.mem_cons, List.not_mem_nil, or_false] at hq
    rcases hq with rfl | rfl | rfl
    · exact hn3
    · exact hlb
    · exact hlc
  · simp [dbs, rb, hn1, hn2, hne]
  · simp
theorem sim_new (p : Pg) (fuel : Int) (lo : Lo) : Sim (Tr.new p fuel) ⟨lo, newS p fuel, [], .nil, 0⟩ 0 :=
  ⟨rfl, rfl, rfl, Nat.le_refl _, fun k => .inl ⟨rfl, rfl⟩, fun y hy => (by cases hy)⟩

set_option maxRecDepth 100000 in
set_option maxHeartbeats 16000000 in
theorem treePlays_call (W : World) (H : Heap) (p : Pg) (fuel : Int) (list : List Cl1) (hp : p.th.length ≤ 4000000000000000) (hl : list.length ≤ 4000000000000000) :
    CallA Try.prog W 3 [.agg (pgC p), .v (.int .i64 fuel), .list (clsC list)] H fun r H' => r = .v (.bool true) := by
  refine call_in Try.func3 rfl Try.ntmps3 (by simp) ?_
  have c0 := fun H => awake10_call W H
  have c1 := fun H => few_call W H p hp
  have c2 := fun H => fewO_call W H list hl
  by_cases hf : fewP p = true
  rotate_left
  · rw [Bool.not_eq_true] at hf
    rw [hf] at c1
    repeat' (first
    | (with_reducible apply run_seq)
    | ((with_reducible apply run_go); simp only [go_sem, *])
    | ((with_reducible apply run_cond_t); (focus (simp only [go_sem, *]; done)))
    | ((with_reducible apply runO_box); (focus (simp only [go_sem, *]; done)); intro pb hpb; have hfb := Heap.ne_of_none hpb; (try simp only [Heap.set_none', stH_none] at hpb); (with_reducible apply runO_go); simp only [go_sem, *])
    | ((with_reducible apply runO_skipF); (focus (simp only [go_sem, *]; rfl)); (focus rfl); (with_reducible apply runO_go); simp only [go_sem, *])
    | ((with_reducible apply runO_callF known7); simp only [go_sem, *]; refine (c0 _).use ?_; (with_reducible apply runO_go); simp only [go_sem, *])
    | ((with_reducible apply runO_callFG known8); (focus (simp only [go_sem, *]; rfl)); (focus (intro _; simp only [go_sem, *]; exact c1 _)); (with_reducible apply runO_go); simp only [go_sem, *])
    | ((with_reducible apply run_ret Try.func3 res3 (H' := H)); (focus (simp only [go_sem, *]; rfl)); (focus trivial); (focus (repeat (first | assumption | exact Heap.sub_refl _ | refine Heap.sub_congr ?_ | refine Heap.sub_set ?_ (by assumption) | refine Heap.sub_set2 ?_ (by first | assumption | (simp only [*]; done) | (simp only [Heap.set_none', stH_none, ne_eq, *, not_false_eq_true, and_self]; done)))))))
    rfl
  by_cases hg : fewO list = true
  rotate_left
  · rw [Bool.not_eq_true] at hg
    rw [hf] at c1
    rw [hg] at c2
    repeat' (first
    | (with_reducible apply run_seq)
    | ((with_reducible apply run_go); simp only [go_sem, *])
    | ((with_reducible apply run_cond_t); (focus (simp only [go_sem, *]; done)))
    | ((with_reducible apply runO_box); (focus (simp only [go_sem, *]; done)); intro pb hpb; have hfb := Heap.ne_of_none hpb; (try simp only [Heap.set_none', stH_none] at hpb); (with_reducible apply runO_go); simp only [go_sem, *])
    | ((with_reducible apply runO_callF known7); simp only [go_sem, *]; refine (c0 _).use ?_; (with_reducible apply runO_go); simp only [go_sem, *])
    | ((with_reducible apply runO_callFG known8); (focus (simp only [go_sem, *]; rfl)); (focus (intro _; simp only [go_sem, *]; exact c1 _)); (with_reducible apply runO_go); simp only [go_sem, *])
    | ((with_reducible apply runO_callFG known9); (focus (simp only [go_sem, *]; rfl)); (focus (intro _; simp only [go_sem, *]; exact c2 _)); (with_reducible apply runO_go); simp only [go_sem, *])
    | ((with_reducible apply run_ret Try.func3 res3 (H' := H)); (focus (simp only [go_sem, *]; rfl)); (focus trivial); (focus (repeat (first | assumption | exact Heap.sub_refl _ | refine Heap.sub_congr ?_ | refine Heap.sub_set ?_ (by assumption) | refine Heap.sub_set2 ?_ (by first | assumption | (simp only [*]; done) | (simp only [Heap.set_none', stH_none, ne_eq, *, not_false_eq_true, and_self]; done)))))))
    rfl
  rw [hf] at c1
  rw [hg] at c2
  have F := few_of hf
  have HG : Hid _ := hg
  clear hf hg
  repeat' (first
    | (with_reducible apply run_seq)
    | (with_reducible apply run_skip)
    | ((with_reducible apply run_go); simp only [go_sem, *])
    | ((with_reducible apply run_cond_f); (focus (simp only [go_sem, *]; done)))
    | ((with_reducible apply runO_box); (focus (simp only [go_sem, *]; done)); intro pb hpb; have hfb := Heap.ne_of_none hpb; (try simp only [Heap.set_none', stH_none] at hpb); (with_reducible apply runO_go); simp only [go_sem, *])
    | ((with_reducible apply runO_callF known7); simp only [go_sem, *]; refine (c0 _).use ?_; (with_reducible apply runO_go); simp only [go_sem, *])
    | ((with_reducible apply runO_callFG known8); (focus (simp only [go_sem, *]; rfl)); (focus (intro _; simp only [go_sem, *]; exact c1 _)); (with_reducible apply runO_go); simp only [go_sem, *])
    | ((with_reducible apply runO_callFG known9); (focus (simp only [go_sem, *]; rfl)); (focus (intro _; simp only [go_sem, *]; exact c2 _)); (with_reducible apply runO_go); simp only [go_sem, *]))
  clear c0 c1 c2
  generalize pb = p3 at *
  have hs02 : H.sub (H.set p3 (.cells (pgC p) 24)) := Heap.sub_set (Heap.sub_refl _) hpb
  have hp3 : (H.set p3 (.cells (pgC p) 24)) p3 = some (.cells [.v (.int .i64 p.vs), .v (.int .i64 p.ms), .list (thsC p.th)] 24) := Heap.set_same _ _ _
  generalize H.set p3 (.cells (pgC p) 24) = H2 at *
  (with_reducible apply runO_callF known10); simp only [go_sem, *]
  refine (newT_call W _ p fuel F (fun c hc => by have := F.code c hc; omega)).mono (fun d1 K hh => ?_)
  have hcl : ∀ c ∈ p.th, c.length ≤ 1000000 := fun c hc => by have := F.code c hc; omega
  rcases hh with ⟨hok, l, hlb, hlm, hne, rfl, hK⟩ | ⟨hno, rfl, hK⟩
  rotate_left
  · obtain rfl := hK.symm
    (with_reducible apply runO_go); simp only [go_sem, *]
    repeat' (first
    | (with_reducible apply run_seq)
    | ((with_reducible apply run_go); simp only [go_sem, *]))
    (with_reducible apply runO_callF known11); simp only [go_sem, *]
    refine (rNew_call W _ p fuel hcl).mono (fun d2 K2 hh => ?_)
    rcases hh with ⟨hok, _⟩ | ⟨_, rfl, hK2⟩
    · rw [hno] at hok; cases hok
    obtain rfl := hK2.symm
    (with_reducible apply runO_go); simp only [go_sem, *]
    repeat' (first
    | (with_reducible apply run_seq)
    | ((with_reducible apply run_go); simp only [go_sem, *])
    | ((with_reducible apply run_cond_t); (focus (simp only [go_sem, *]; done)))
    | ((with_reducible apply run_ret Try.func3 res3 (H' := H)); (focus (simp only [go_sem, *]; rfl)); (focus trivial); (focus (repeat (first | assumption | exact Heap.sub_refl _ | refine Heap.sub_congr ?_ | refine Heap.sub_set ?_ (by assumption) | refine Heap.sub_set2 ?_ (by first | assumption | (simp only [*]; done) | (simp only [Heap.set_none', stH_none, ne_eq, *, not_false_eq_true, and_self]; done)))))))
    rfl
  have h0 : AtF H2 K l (Tr.new p fuel) := by rw [hK]; exact newT_F (Heap.sub_refl _) hlb hlm hne
  have o0 := okN_new hok hcl
  have hp3K := h0.sub _ _ hp3
  clear hK hlb hlm hne hfb hpb
  (with_reducible apply runO_go); simp only [go_sem, *]
  repeat' (first
    | (with_reducible apply run_seq)
    | ((with_reducible apply run_go); simp only [go_sem, *]))
  (with_reducible apply runO_callF known11); simp only [go_sem, *]
  refine (rNew_call W _ p fuel hcl).mono (fun d2 K2 hh => ?_)
  rcases hh with ⟨_, lo, hlb, hlc, hne, hcap, rfl, rfl⟩ | ⟨hno, _⟩
  rotate_left
  · rw [hok] at hno; cases hno
  have HOK : Hid _ := hok
  clear hok
  (with_reducible apply runO_go); simp only [go_sem, *]
  repeat' (first
    | (with_reducible apply run_seq)
    | (with_reducible apply run_block)
    | (with_reducible apply run_skip)
    | ((with_reducible apply run_go); simp only [go_sem, *])
    | ((with_reducible apply run_cond_f); (focus (simp only [go_sem, *]; done)))
    | ((with_reducible apply runO_box); (focus (simp only [go_sem, *]; done)); intro pb hpb; have hfb := Heap.ne_of_none hpb; (try simp only [Heap.set_none', stH_none] at hpb); (with_reducible apply runO_go); simp only [go_sem, *]))
  generalize pb = nb at *
  have hB0 := both_new h0 HOK.out hlb hlc hne hcap hpb.1.1 hpb.2.1.1 hpb.2.2
  clear h0 hlb hlc hne hcap hpb hfb hp3 hp3K
  generalize (stR K lo (newS p fuel)).set nb (.cells [.v (.pointer (some ⟨lo.b, 0, none⟩)), .nil, .v (.int .i64 0)] 38) = K3 at *
  refine run_loop (fun nq eq Hq => ∃ (k : Nat) (t : Tr) (d : DT), k ≤ list.length ∧ nq = list.length - k ∧ (Both H2 Hq l t nb d ∧ OkN t (k : Int) ∧ Sim t d k) ∧ eq 7 = pT l ∧ eq 10 = pB nb ∧ eq 65 = .list (clsC list) ∧ eq 66 = .v (.int .i64 (list.length : Int)) ∧ eq 67 = .v (.int .i64 (k : Int)) ∧ True) (list.length)
      ⟨0, Tr.new p fuel, ⟨lo, newS p fuel, [], .nil, 0⟩, Nat.zero_le _, rfl, ⟨hB0, o0, sim_new p fuel lo⟩, (by simp only [go_sem, *]), (by simp only [go_sem, *]), (by simp only [go_sem, *]), (by simp only [go_sem, *]), (by simp only [go_sem] <;> rfl), trivial⟩ ?_
  rintro nq eq Hq ih ⟨k, t, d, qk, rfl, vq0, qs7, qs10, qs65, qs66, qs67, -⟩
  have IHq : Hid _ := ih
  clear ih
  have Iq0 : Hid _ := vq0
  clear vq0
  obtain ⟨hB, hO, hS⟩ := Iq0.out
  have hl100 := fewO_len HG.out
  have hsA : H.sub Hq := hs02.trans hB.sub
  by_cases hlt : k < list.length
  · have hw := wrap_succ (k := k) (by omega)
    have hpf := fewO_pf HG.out hlt
    have hal := clsC_all list
    generalize ho : list.getD k default = o at *
    obtain ⟨kd, n, pf, st⟩ := o
    replace hpf : okS pf := hpf
    have cb := fun H => bits_call W H st
    have hst256 := st.isLt
    have wst : IntKind.i64.wrap (st.toNat : Int) = (st.toNat : Int) := wrap_small (by omega) (by omega)
    clear hst256
    clear hB0 o0 Iq0
    repeat' (first
    | (with_reducible apply run_seq)
    | ((with_reducible apply run_go); simp only [go_sem, *]))
    ((with_reducible apply run_cond_t); (focus (simp only [go_sem, *]; done)))
    repeat' (first
    | (with_reducible apply run_seq)
    | (with_reducible apply run_skip))
    (with_reducible apply run_block)
    repeat' (first
    | (with_reducible apply run_seq)
    | ((with_reducible apply run_go); simp only [go_sem, *])
    | ((with_reducible apply runO_alloc); (focus (simp only [go_sem, *]; rfl)); intro pb hpb; have hfb := Heap.ne_of_none hpb; (try simp only [Heap.set_none', stH_none] at hpb); (with_reducible apply runO_go); simp only [go_sem, *])
    | ((with_reducible apply runO_store); (focus (simp only [go_sem]; rfl)); (focus (simp only [go_sem, *]; rfl)); (focus (simp only [go_sem, *]; rfl)); (focus (simp only [go_sem, *]; done)); (focus (simp only [go_sem, *]; done)); (focus (simp only [go_sem, *]; done)); (with_reducible apply runO_go); simp only [go_sem, *, Heap.set_set])
    | ((with_reducible apply runO_callF known12); simp only [go_sem, *]; refine (cb _).use ?_; (with_reducible apply runO_go); simp only [go_sem, *]))
    have hpbH := hB.none' hpb
    have hB2 := hB.fresh (.cells [.v (.int .i64 kd), .v (.int .i64 n), .v (.string (strL pf)), .v (.int .u8 (st.toNat : Int))] 40) hpb
    have hsP : H2.sub (H2.set pb (.cells [.v (.int .i64 kd), .v (.int .i64 n), .v (.string (strL pf)), .v (.int .u8 (st.toNat : Int))] 40)) := Heap.sub_set (Heap.sub_refl _) hpbH
    have hcellP : (H2.set pb (.cells [.v (.int .i64 kd), .v (.int .i64 n), .v (.string (strL pf)), .v (.int .u8 (st.toNat : Int))] 40)) pb = some (.cells [.v (.int .i64 kd), .v (.int .i64 n), .v (.string (strL pf)), .v (.int .u8 (st.toNat : Int))] 40) := Heap.set_same _ _ _
    clear cb wst hB hfb
    refine run_cut (fun e' Hx => ∃ (t2 : Tr) (d2 : DT) (g : Int), (Both (H2.set pb (.cells [.v (.int .i64 kd), .v (.int .i64 n), .v (.string (strL pf)), .v (.int .u8 (st.toNat : Int))] 40)) Hx l t2 nb d2 ∧ OkN t2 ((k + 1 : Nat) : Int) ∧ Sim t2 d2 (k + 1)) ∧ e' 7 = pT l ∧ e' 10 = pB nb ∧ e' 12 = pB pb ∧ e' 65 = .list (clsC list) ∧ e' 66 = .v (.int .i64 (list.length : Int)) ∧ e' 67 = .v (.int .i64 (k : Int)) ∧
      e' 13 = .v (.int .i64 g) ∧ e' 14 = .v (.int .i64 g)) ?_ ?_
    · rintro e' Hx ⟨t2, d2, g, ⟨hBx, hOx, hSx⟩, s7, s10, s12, s65, s66, s67, s13, s14⟩
      have hcx := hBx.sub _ _ hcellP
      have hT := hBx.atT
      have hD := hBx.atD
      have hod := hSx.okD (by omega : k + 1 ≤ 1000)
      have hsX : H.sub Hx := hs02.trans (hsP.trans hBx.sub)
      have HB : Hid _ := And.intro (hBx.less hsP) (And.intro hOx hSx)
      have hOk := hOx.ok
      have hOst := hOx.ok.st pf
      have hSat := hSx.at pf
      have hs0len : d2.s0.ts.length = t2.p.th.length := by rw [hD.hs.len, hSx.s0]; rfl
      have cLn := fun H' (hk : Hx.sub H') => len_call W H' l t2 (hT.mono hk)
      have cCl := fun H' (hk : Hx.sub H') => claims_call W H' l t2 (hT.mono hk)
      have hlen : d2.N.length = t2.ns.length := by have := congrArg List.length hSx.ks; simpa [Tr.keys] using this
      have hcl2 := hSx.cl
      rw [← hlen] at cLn
      rw [← hcl2] at cCl
      have hbd := hD.hb
      clear hB2 hsP hcellP hpbH hO hS hsA hBx hOx hcl2 hlen
      rcases hD.hN with ⟨hnD, hxs⟩ | ⟨bb, cap, hnD, hgr⟩
      · have h00 : d2.N.length = 0 := by rw [← ptrsC_length, hxs]; rfl
        rw [hnD] at hbd
        rw [h00] at cLn
        clear hxs hnD h00
        rcases hSx.nd pf with ⟨h1, h2⟩ | ⟨x, y, h1, h2, h3⟩
        · have cF := dFind_none W hD hod h2
          have cDL : True := trivial
          have hw1 : t2.ow pf = -1 := by unfold Tr.ow; rw [h1]
          have hw2 : t2.lf pf = [] := by unfold Tr.lf; rw [h1]
          have hw3 : allB (t2.sl pf) 8 = [] := by unfold Tr.sl; rw [h1]; decide
          have cOw := fun H' (hk : Hx.sub H') => owner_call W H' l t2 (hT.mono hk) pf hpf
          have cLf := fun H' (hk : Hx.sub H') => tLeft_call W H' l t2 (hT.mono hk) pf hpf
          have cAs := fun H' (hk : Hx.sub H') => asleep_call W H' l t2 (hT.mono hk) pf hpf
          have cAl := fun H => setAll_call W H (t2.sl pf)
          rw [hw1] at cOw
          rw [hw2] at cLf
          rw [hw3] at cAl
          have cs1 := fun H => sameInts_call W H [] [] (by simp)
          have cs2 := cs1
          simp only [decide_true] at cs1 cs2
          have hi0 : intsC [] = [] := rfl
          rw [hi0] at cs1 cs2 cAl cLf
          generalize t2.sl pf = S1 at *
          clear hw1 hw2 hw3 h1 h2 hi0
          repeat' (first
    | (with_reducible apply run_seq)
    | (with_reducible apply run_skip)
    | ((with_reducible apply run_go); simp only [go_sem, *])
    | ((with_reducible apply run_cond_f); (focus (simp only [go_sem, *]; done)))
    | ((with_reducible apply runO_callF known22); simp only [go_sem, *]; refine (cF).use ?_; (with_reducible apply runO_go); simp only [go_sem, *])
    | ((with_reducible apply runO_buildSlice); (focus (simp only [go_sem]; rfl)); (focus (simp only [go_sem]; rfl)); (focus (simp only [go_sem]; rfl)); (focus rfl); (focus rfl); (focus (simp only [go_sem, *]; done)); (focus (simp only [go_sem, *]; done)); (focus decide); (with_reducible apply runO_go); simp only [go_sem, *]))
          (with_reducible apply runO_callF known24); simp only [go_sem, *]
          refine (at_call W Hx l t2 hT hOk pf hpf).mono (fun d1 K1 hh => ?_)
          rcases hh with ⟨he, rfl, hK⟩ | ⟨he, l1, hlb, hlc, hne, hcap, rfl, rfl⟩
          · obtain rfl := hK.symm
            have cA := dAt_call W Hx nb d2.lo d2.s0 d2.nD d2.cl hD.hb hD.hr hD.hs pf hpf
            unfold AtDQ at cA
            rw [hSat] at cA
            generalize (t2.at pf).1 = er at *
            (with_reducible apply runO_go); simp only [go_sem, *]
            repeat' (first
    | (with_reducible apply run_seq)
    | ((with_reducible apply run_go); simp only [go_sem, *]))
            (with_reducible apply runO_callF known25); simp only [go_sem, *]
            refine cA.mono (fun d3 K3 hh => ?_)
            rcases hh with ⟨_, rfl, hK3⟩ | ⟨he2, _⟩
            rotate_left
            · exact absurd he2 he
            obtain rfl := hK3.symm
            clear cA
            simp only [lapp_cons, lapp_nil]
            (with_reducible apply runO_go); simp only [go_sem, *]
            repeat' (first
    | (with_reducible apply run_seq)
    | (with_reducible apply run_inBlock)
    | (with_reducible apply run_skip)
    | ((with_reducible apply run_go); simp only [go_sem, *])
    | ((with_reducible apply run_drawGo Cl.zero Cl.zero_plain mixed); (focus kernel_rfl); simp only [go_sem, *])
    | ((with_reducible apply run_cond_f); (focus (simp only [go_sem, *]; done)))
    | ((with_reducible apply runD_skipF); (focus rfl); (focus (simp only [go_sem, *]; rfl)); (focus rfl); (with_reducible first | apply runD_go Cl.zero_plain | apply runD_goC); simp only [go_sem, *])
    | ((with_reducible apply runD_callFG known26); (focus exact ⟨rfl, rfl⟩); (focus (simp only [go_sem, *]; rfl)); (focus (intro _; simp only [go_sem, *]; exact cOw _ (by (repeat (first | assumption | exact Heap.sub_refl _ | refine Heap.sub_congr ?_ | refine Heap.sub_set ?_ (by assumption) | refine Heap.sub_set2 ?_ (by first | assumption | (simp only [*]; done) | (simp only [Heap.set_none', stH_none, ne_eq, *, not_false_eq_true, and_self]; done)))); done))); (with_reducible first | apply runD_go Cl.zero_plain | apply runD_goC); simp only [go_sem, *])
    | ((with_reducible apply runD_callFG known27); (focus exact ⟨rfl, rfl⟩); (focus (simp only [go_sem, *]; rfl)); (focus (intro _; simp only [go_sem, *]; exact cLf _ (by (repeat (first | assumption | exact Heap.sub_refl _ | refine Heap.sub_congr ?_ | refine Heap.sub_set ?_ (by assumption) | refine Heap.sub_set2 ?_ (by first | assumption | (simp only [*]; done) | (simp only [Heap.set_none', stH_none, ne_eq, *, not_false_eq_true, and_self]; done)))); done))); (with_reducible first | apply runD_go Cl.zero_plain | apply runD_goC); simp only [go_sem, *])
    | ((with_reducible apply runD_callFG known28); (focus exact ⟨rfl, rfl⟩); (focus (simp only [go_sem, *]; rfl)); (focus (intro _; simp only [go_sem, *]; exact cAs _ (by (repeat (first | assumption | exact Heap.sub_refl _ | refine Heap.sub_congr ?_ | refine Heap.sub_set ?_ (by assumption) | refine Heap.sub_set2 ?_ (by first | assumption | (simp only [*]; done) | (simp only [Heap.set_none', stH_none, ne_eq, *, not_false_eq_true, and_self]; done)))); done))); (with_reducible first | apply runD_go Cl.zero_plain | apply runD_goC); simp only [go_sem, *])
    | ((with_reducible apply runD_callFG known29); (focus exact ⟨rfl, rfl⟩); (focus (simp only [go_sem, *]; rfl)); (focus (intro _; simp only [go_sem, *]; exact cLn _ (by (repeat (first | assumption | exact Heap.sub_refl _ | refine Heap.sub_congr ?_ | refine Heap.sub_set ?_ (by assumption) | refine Heap.sub_set2 ?_ (by first | assumption | (simp only [*]; done) | (simp only [Heap.set_none', stH_none, ne_eq, *, not_false_eq_true, and_self]; done)))); done))); (with_reducible first | apply runD_go Cl.zero_plain | apply runD_goC); simp only [go_sem, *])
    | ((with_reducible apply runD_callFG known30); (focus exact ⟨rfl, rfl⟩); (focus (simp only [go_sem, *]; rfl)); (focus (intro _; simp only [go_sem, *]; exact cCl _ (by (repeat (first | assumption | exact Heap.sub_refl _ | refine Heap.sub_congr ?_ | refine Heap.sub_set ?_ (by assumption) | refine Heap.sub_set2 ?_ (by first | assumption | (simp only [*]; done) | (simp only [Heap.set_none', stH_none, ne_eq, *, not_false_eq_true, and_self]; done)))); done))); (with_reducible first | apply runD_go Cl.zero_plain | apply runD_goC); simp only [go_sem, *])
    | ((with_reducible apply runD_callFG known20); (focus exact ⟨rfl, rfl⟩); (focus (simp only [go_sem, *]; rfl)); (focus (intro _; simp only [go_sem, *]; exact cAl _)); (with_reducible first | apply runD_go Cl.zero_plain | apply runD_goC); simp only [go_sem, *])
    | ((with_reducible apply runD_callFG known19); (focus exact ⟨rfl, rfl⟩); (focus (simp only [go_sem, *]; rfl)); (focus (intro _; simp only [go_sem, *]; exact cs1 _)); (with_reducible first | apply runD_go Cl.zero_plain | apply runD_goC); simp only [go_sem, *]))
            refine run_drop (H' := Hx) (by (repeat (first | assumption | exact Heap.sub_refl _ | refine Heap.sub_congr ?_ | refine Heap.sub_set ?_ (by assumption) | refine Heap.sub_set2 ?_ (by first | assumption | (simp only [*]; done) | (simp only [Heap.set_none', stH_none, ne_eq, *, not_false_eq_true, and_self]; done)))); done) ?_
            refine IHq.out (list.length - (k + 1)) _ _ (by omega) ⟨k + 1, t2, d2, by omega, rfl, HB.out, (by simp only [go_sem, *]), (by simp only [go_sem, *]), (by simp only [go_sem, *]), (by simp only [go_sem, *]), (by simp only [go_sem, *]), trivial⟩
          · have hsub1 : Hx.sub (stP Hx l1 (t2.at pf).2.2) := stH_subH hlb hlc
            have hcx1 := hsub1 _ _ hcx
            obtain ⟨hos, hsp⟩ := hOst
            have hcap1 : (t2.at pf).2.2.ts.length ≤ l1.cap := by rw [hos.len, hsp]; exact hcap
            have hatP : AtP (stP Hx l1 (t2.at pf).2.2) l1 (t2.at pf).2.2 := stH_at hne hcap1
            have cA := dAt_call W (stP Hx l1 (t2.at pf).2.2) nb d2.lo d2.s0 d2.nD d2.cl (hsub1 _ _ hD.hb) (hD.hr.mono hsub1) hD.hs pf hpf
            unfold AtDQ at cA
            rw [hSat] at cA
            have hda := hs0len
            generalize (t2.at pf).2.1 = evs at *
            generalize (t2.at pf).2.2 = st1 at *
            generalize stP Hx l1 st1 = K1 at *
            clear hlb hlc hne hcap hcap1
            (with_reducible apply runO_go); simp only [go_sem, *]
            repeat' (first
    | (with_reducible apply run_seq)
    | ((with_reducible apply run_go); simp only [go_sem, *]))
            (with_reducible apply runO_callF known25); simp only [go_sem, *]
            refine cA.mono (fun d3 K3 hh => ?_)
            rcases hh with ⟨he2, _⟩ | ⟨_, l2, hlb, hlc, hne, hcap, rfl, rfl⟩
            · exact absurd he he2
            have hsub2 : K1.sub (stR K1 l2 st1) := stH_subH hlb hlc
            have hcap2 : st1.ts.length ≤ l2.cap := by rw [hos.len, hsp, ← hda]; exact hcap
            have hatR : AtR (stR K1 l2 st1) l2 st1 := stH_at hne hcap2
            have cP := mAll_call W (stR K1 l2 st1) l1 st1 (hatP.mono hsub2) hos
            have cR := rAll_call W (stR K1 l2 st1) l2 st1 hatR hos
            have hal3 := allK_len st1 st1.ts.length
            rw [← all_eq] at hal3
            have hl4 := (ok_len hos).1
            have cs3 := fun H => sameInts_call W H st1.all st1.all (by omega)
            simp only [decide_true] at cs3
            have hsub := hsub1.trans hsub2
            have hcx2 := hsub _ _ hcx
            have hbd2 := hsub _ _ hbd
            generalize st1.all = AL at *
            generalize stR K1 l2 st1 = K2 at *
            clear cA hatR hatP hlb hlc hne hcap hcap2 hos hsub1 hsub2 hsp hda
            simp only [lapp_cons, lapp_nil]
            (with_reducible apply runO_go); simp only [go_sem, *]
            repeat' (first
    | (with_reducible apply run_seq)
    | (with_reducible apply run_inBlock)
    | (with_reducible apply run_skip)
    | ((with_reducible apply run_go); simp only [go_sem, *])
    | ((with_reducible apply run_drawGo Cl.zero Cl.zero_plain mixed); (focus kernel_rfl); simp only [go_sem, *])
    | ((with_reducible apply run_cond_f); (focus (simp only [go_sem, *]; done)))
    | ((with_reducible apply runD_callFG known26); (focus exact ⟨rfl, rfl⟩); (focus (simp only [go_sem, *]; rfl)); (focus (intro _; simp only [go_sem, *]; exact cOw _ (by (repeat (first | assumption | exact Heap.sub_refl _ | refine Heap.sub_congr ?_ | refine Heap.sub_set ?_ (by assumption) | refine Heap.sub_set2 ?_ (by first | assumption | (simp only [*]; done) | (simp only [Heap.set_none', stH_none, ne_eq, *, not_false_eq_true, and_self]; done)))); done))); (with_reducible first | apply runD_go Cl.zero_plain | apply runD_goC); simp only [go_sem, *])
    | ((with_reducible apply runD_callFG known27); (focus exact ⟨rfl, rfl⟩); (focus (simp only [go_sem, *]; rfl)); (focus (intro _; simp only [go_sem, *]; exact cLf _ (by (repeat (first | assumption | exact Heap.sub_refl _ | refine Heap.sub_congr ?_ | refine Heap.sub_set ?_ (by assumption) | refine Heap.sub_set2 ?_ (by first | assumption | (simp only [*]; done) | (simp only [Heap.set_none', stH_none, ne_eq, *, not_false_eq_true, and_self]; done)))); done))); (with_reducible first | apply runD_go Cl.zero_plain | apply runD_goC); simp only [go_sem, *])
    | ((with_reducible apply runD_callFG known28); (focus exact ⟨rfl, rfl⟩); (focus (simp only [go_sem, *]; rfl)); (focus (intro _; simp only [go_sem, *]; exact cAs _ (by (repeat (first | assumption | exact Heap.sub_refl _ | refine Heap.sub_congr ?_ | refine Heap.sub_set ?_ (by assumption) | refine Heap.sub_set2 ?_ (by first | assumption | (simp only [*]; done) | (simp only [Heap.set_none', stH_none, ne_eq, *, not_false_eq_true, and_self]; done)))); done))); (with_reducible first | apply runD_go Cl.zero_plain | apply runD_goC); simp only [go_sem, *])
    | ((with_reducible apply runD_callFG known29); (focus exact ⟨rfl, rfl⟩); (focus (simp only [go_sem, *]; rfl)); (focus (intro _; simp only [go_sem, *]; exact cLn _ (by (repeat (first | assumption | exact Heap.sub_refl _ | refine Heap.sub_congr ?_ | refine Heap.sub_set ?_ (by assumption) | refine Heap.sub_set2 ?_ (by first | assumption | (simp only [*]; done) | (simp only [Heap.set_none', stH_none, ne_eq, *, not_false_eq_true, and_self]; done)))); done))); (with_reducible first | apply runD_go Cl.zero_plain | apply runD_goC); simp only [go_sem, *])
    | ((with_reducible apply runD_callFG known30); (focus exact ⟨rfl, rfl⟩); (focus (simp only [go_sem, *]; rfl)); (focus (intro _; simp only [go_sem, *]; exact cCl _ (by (repeat (first | assumption | exact Heap.sub_refl _ | refine Heap.sub_congr ?_ | refine Heap.sub_set ?_ (by assumption) | refine Heap.sub_set2 ?_ (by first | assumption | (simp only [*]; done) | (simp only [Heap.set_none', stH_none, ne_eq, *, not_false_eq_true, and_self]; done)))); done))); (with_reducible first | apply runD_go Cl.zero_plain | apply runD_goC); simp only [go_sem, *])
    | ((with_reducible apply runD_callFG known20); (focus exact ⟨rfl, rfl⟩); (focus (simp only [go_sem, *]; rfl)); (focus (intro _; simp only [go_sem, *]; exact cAl _)); (with_reducible first | apply runD_go Cl.zero_plain | apply runD_goC); simp only [go_sem, *])
    | ((with_reducible apply runD_callFG known19); (focus exact ⟨rfl, rfl⟩); (focus (simp only [go_sem, *]; rfl)); (focus (intro _; simp only [go_sem, *]; exact cs1 _)); (with_reducible first | apply runD_go Cl.zero_plain | apply runD_goC); simp only [go_sem, *])
    | ((with_reducible apply runD_callFG known31); (focus exact ⟨rfl, rfl⟩); (focus (simp only [go_sem, *]; rfl)); (focus (intro _; simp only [go_sem, *]; exact cP)); (with_reducible first | apply runD_go Cl.zero_plain | apply runD_goC); simp only [go_sem, *])
    | ((with_reducible apply runD_callFG known32); (focus exact ⟨rfl, rfl⟩); (focus (simp only [go_sem, *]; rfl)); (focus (intro _; simp only [go_sem, *]; exact cR)); (with_reducible first | apply runD_go Cl.zero_plain | apply runD_goC); simp only [go_sem, *])
    | ((with_reducible apply runD_callFG known19); (focus exact ⟨rfl, rfl⟩); (focus (simp only [go_sem, *]; rfl)); (focus (intro _; simp only [go_sem, *]; exact cs3 _)); (with_reducible first | apply runD_go Cl.zero_plain | apply runD_goC); simp only [go_sem, *]))
            refine run_drop (H' := Hx) (by (repeat (first | assumption | exact Heap.sub_refl _ | refine Heap.sub_congr ?_ | refine Heap.sub_set ?_ (by assumption) | refine Heap.sub_set2 ?_ (by first | assumption | (simp only [*]; done) | (simp only [Heap.set_none', stH_none, ne_eq, *, not_false_eq_true, and_self]; done)))); done) ?_
            refine IHq.out (list.length - (k + 1)) _ _ (by omega) ⟨k + 1, t2, d2, by omega, rfl, HB.out, (by simp only [go_sem, *]), (by simp only [go_sem, *]), (by simp only [go_sem, *]), (by simp only [go_sem, *]), (by simp only [go_sem, *]), trivial⟩
        · have hym := (dfnd_mem h2).1
          have cF := dFind_some W hD hod h2
          have cDL := dLeft_call W Hx y (hD.hn y hym) (hD.ht y hym) (hD.hd y hym) (hod.len y hym)
          have hny := hD.node h2
          have hw1 : t2.ow pf = y.ow := by unfold Tr.ow; rw [h1]; exact h3.ow
          have hw2 : t2.lf pf = leftD y 8 := by unfold Tr.lf; rw [h1]; exact nsim_left h3
          have hw3 : allB (t2.sl pf) 8 = y.sl := by unfold Tr.sl; rw [h1]; exact h3.sl.symm
          have hly := hSx.len y hym
          have hl8 := leftD_len y 8
          have cOw := fun H' (hk : Hx.sub H') => owner_call W H' l t2 (hT.mono hk) pf hpf
          have cLf := fun H' (hk : Hx.sub H') => tLeft_call W H' l t2 (hT.mono hk) pf hpf
          have cAs := fun H' (hk : Hx.sub H') => asleep_call W H' l t2 (hT.mono hk) pf hpf
          have cAl := fun H => setAll_call W H (t2.sl pf)
          rw [hw1] at cOw
          rw [hw2] at cLf
          rw [hw3] at cAl
          have cs1 := fun H => sameInts_call W H (leftD y 8) (leftD y 8) (by omega)
          have cs2 := fun H => sameInts_call W H y.sl y.sl (by omega)
          simp only [decide_true] at cs1 cs2
          generalize t2.sl pf = S1 at *
          generalize leftD y 8 = LL at *
          clear hw1 hw2 hw3 h1 h2 h3 hly hl8 hym
          repeat' (first
    | (with_reducible apply run_seq)
    | ((with_reducible apply run_go); simp only [go_sem, *])
    | ((with_reducible apply run_drawGo Cl.zero Cl.zero_plain mixed); (focus kernel_rfl); simp only [go_sem, *])
    | ((with_reducible apply run_cond_t); (focus (simp only [go_sem, *]; done)))
    | ((with_reducible apply runO_callF known22); simp only [go_sem, *]; refine (cF).use ?_; (with_reducible apply runO_go); simp only [go_sem, *])
    | ((with_reducible apply runD_callF known23); (focus rfl); (focus (simp only [go_sem, *]; exact cDL)); (with_reducible first | apply runD_go Cl.zero_plain | apply runD_goC); simp only [go_sem, *])
    | ((with_reducible apply runO_buildSlice); (focus (simp only [go_sem]; rfl)); (focus (simp only [go_sem]; rfl)); (focus (simp only [go_sem]; rfl)); (focus rfl); (focus rfl); (focus (simp only [go_sem, *]; done)); (focus (simp only [go_sem, *]; done)); (focus decide); (with_reducible apply runO_go); simp only [go_sem, *]))
          (with_reducible apply runO_callF known24); simp only [go_sem, *]
          refine (at_call W Hx l t2 hT hOk pf hpf).mono (fun d1 K1 hh => ?_)
          rcases hh with ⟨he, rfl, hK⟩ | ⟨he, l1, hlb, hlc, hne, hcap, rfl, rfl⟩
          · obtain rfl := hK.symm
            have cA := dAt_call W Hx nb d2.lo d2.s0 d2.nD d2.cl hD.hb hD.hr hD.hs pf hpf
            unfold AtDQ at cA
            rw [hSat] at cA
            generalize (t2.at pf).1 = er at *
            (with_reducible apply runO_go); simp only [go_sem, *]
            repeat' (first
    | (with_reducible apply run_seq)
    | ((with_reducible apply run_go); simp only [go_sem, *]))
            (with_reducible apply runO_callF known25); simp only [go_sem, *]
            refine cA.mono (fun d3 K3 hh => ?_)
            rcases hh with ⟨_, rfl, hK3⟩ | ⟨he2, _⟩
            rotate_left
            · exact absurd he2 he
            obtain rfl := hK3.symm
            clear cA
            simp only [lapp_cons, lapp_nil]
            (with_reducible apply runO_go); simp only [go_sem, *]
            repeat' (first
    | (with_reducible apply run_seq)
    | (with_reducible apply run_inBlock)
    | (with_reducible apply run_skip)
    | ((with_reducible apply run_go); simp only [go_sem, *])
    | ((with_reducible apply run_drawGo Cl.zero Cl.zero_plain mixed); (focus kernel_rfl); simp only [go_sem, *])
    | ((with_reducible apply run_cond_f); (focus (simp only [go_sem, *]; done)))
    | ((with_reducible apply runD_skipF); (focus rfl); (focus (simp only [go_sem, *]; rfl)); (focus rfl); (with_reducible first | apply runD_go Cl.zero_plain | apply runD_goC); simp only [go_sem, *])
    | ((with_reducible apply runD_callFG known26); (focus exact ⟨rfl, rfl⟩); (focus (simp only [go_sem, *]; rfl)); (focus (intro _; simp only [go_sem, *]; exact cOw _ (by (repeat (first | assumption | exact Heap.sub_refl _ | refine Heap.sub_congr ?_ | refine Heap.sub_set ?_ (by assumption) | refine Heap.sub_set2 ?_ (by first | assumption | (simp only [*]; done) | (simp only [Heap.set_none', stH_none, ne_eq, *, not_false_eq_true, and_self]; done)))); done))); (with_reducible first | apply runD_go Cl.zero_plain | apply runD_goC); simp only [go_sem, *])
    | ((with_reducible apply runD_callFG known27); (focus exact ⟨rfl, rfl⟩); (focus (simp only [go_sem, *]; rfl)); (focus (intro _; simp only [go_sem, *]; exact cLf _ (by (repeat (first | assumption | exact Heap.sub_refl _ | refine Heap.sub_congr ?_ | refine Heap.sub_set ?_ (by assumption) | refine Heap.sub_set2 ?_ (by first | assumption | (simp only [*]; done) | (simp only [Heap.set_none', stH_none, ne_eq, *, not_false_eq_true, and_self]; done)))); done))); (with_reducible first | apply runD_go Cl.zero_plain | apply runD_goC); simp only [go_sem, *])
    | ((with_reducible apply runD_callFG known28); (focus exact ⟨rfl, rfl⟩); (focus (simp only [go_sem, *]; rfl)); (focus (intro _; simp only [go_sem, *]; exact cAs _ (by (repeat (first | assumption | exact Heap.sub_refl _ | refine Heap.sub_congr ?_ | refine Heap.sub_set ?_ (by assumption) | refine Heap.sub_set2 ?_ (by first | assumption | (simp only [*]; done) | (simp only [Heap.set_none', stH_none, ne_eq, *, not_false_eq_true, and_self]; done)))); done))); (with_reducible first | apply runD_go Cl.zero_plain | apply runD_goC); simp only [go_sem, *])
    | ((with_reducible apply runD_callFG known29); (focus exact ⟨rfl, rfl⟩); (focus (simp only [go_sem, *]; rfl)); (focus (intro _; simp only [go_sem, *]; exact cLn _ (by (repeat (first | assumption | exact Heap.sub_refl _ | refine Heap.sub_congr ?_ | refine Heap.sub_set ?_ (by assumption) | refine Heap.sub_set2 ?_ (by first | assumption | (simp only [*]; done) | (simp only [Heap.set_none', stH_none, ne_eq, *, not_false_eq_true, and_self]; done)))); done))); (with_reducible first | apply runD_go Cl.zero_plain | apply runD_goC); simp only [go_sem, *])
    | ((with_reducible apply runD_callFG known30); (focus exact ⟨rfl, rfl⟩); (focus (simp only [go_sem, *]; rfl)); (focus (intro _; simp only [go_sem, *]; exact cCl _ (by (repeat (first | assumption | exact Heap.sub_refl _ | refine Heap.sub_congr ?_ | refine Heap.sub_set ?_ (by assumption) | refine Heap.sub_set2 ?_ (by first | assumption | (simp only [*]; done) | (simp only [Heap.set_none', stH_none, ne_eq, *, not_false_eq_true, and_self]; done)))); done))); (with_reducible first | apply runD_go Cl.zero_plain | apply runD_goC); simp only [go_sem, *])
    | ((with_reducible apply runD_callFG known20); (focus exact ⟨rfl, rfl⟩); (focus (simp only [go_sem, *]; rfl)); (focus (intro _; simp only [go_sem, *]; exact cAl _)); (with_reducible first | apply runD_go Cl.zero_plain | apply runD_goC); simp only [go_sem, *])
    | ((with_reducible apply runD_callFG known19); (focus exact ⟨rfl, rfl⟩); (focus (simp only [go_sem, *]; rfl)); (focus (intro _; simp only [go_sem, *]; exact cs1 _)); (with_reducible first | apply runD_go Cl.zero_plain | apply runD_goC); simp only [go_sem, *])
    | ((with_reducible apply runD_callFG known19); (focus exact ⟨rfl, rfl⟩); (focus (simp only [go_sem, *]; rfl)); (focus (intro _; simp only [go_sem, *]; exact cs2 _)); (with_reducible first | apply runD_go Cl.zero_plain | apply runD_goC); simp only [go_sem, *]))
            refine run_drop (H' := Hx) (by (repeat (first | assumption | exact Heap.sub_refl _ | refine Heap.sub_congr ?_ | refine Heap.sub_set ?_ (by assumption) | refine Heap.sub_set2 ?_ (by first | assumption | (simp only [*]; done) | (simp only [Heap.set_none', stH_none, ne_eq, *, not_false_eq_true, and_self]; done)))); done) ?_
            refine IHq.out (list.length - (k + 1)) _ _ (by omega) ⟨k + 1, t2, d2, by omega, rfl, HB.out, (by simp only [go_sem, *]), (by simp only [go_sem, *]), (by simp only [go_sem, *]), (by simp only [go_sem, *]), (by simp only [go_sem, *]), trivial⟩
          · have hsub1 : Hx.sub (stP Hx l1 (t2.at pf).2.2) := stH_subH hlb hlc
            have hcx1 := hsub1 _ _ hcx
            obtain ⟨hos, hsp⟩ := hOst
            have hcap1 : (t2.at pf).2.2.ts.length ≤ l1.cap := by rw [hos.len, hsp]; exact hcap
            have hatP : AtP (stP Hx l1 (t2.at pf).2.2) l1 (t2.at pf).2.2 := stH_at hne hcap1
            have cA := dAt_call W (stP Hx l1 (t2.at pf).2.2) nb d2.lo d2.s0 d2.nD d2.cl (hsub1 _ _ hD.hb) (hD.hr.mono hsub1) hD.hs pf hpf
            unfold AtDQ at cA
            rw [hSat] at cA
            have hda := hs0len
            generalize (t2.at pf).2.1 = evs at *
            generalize (t2.at pf).2.2 = st1 at *
            generalize stP Hx l1 st1 = K1 at *
            clear hlb hlc hne hcap hcap1
            (with_reducible apply runO_go); simp only [go_sem, *]
            repeat' (first
    | (with_reducible apply run_seq)
    | ((with_reducible apply run_go); simp only [go_sem, *]))
            (with_reducible apply runO_callF known25); simp only [go_sem, *]
            refine cA.mono (fun d3 K3 hh => ?_)
            rcases hh with ⟨he2, _⟩ | ⟨_, l2, hlb, hlc, hne, hcap, rfl, rfl⟩
            · exact absurd he he2
            have hsub2 : K1.sub (stR K1 l2 st1) := stH_subH hlb hlc
            have hcap2 : st1.ts.length ≤ l2.cap := by rw [hos.len, hsp, ← hda]; exact hcap
            have hatR : AtR (stR K1 l2 st1) l2 st1 := stH_at hne hcap2
            have cP := mAll_call W (stR K1 l2 st1) l1 st1 (hatP.mono hsub2) hos
            have cR := rAll_call W (stR K1 l2 st1) l2 st1 hatR hos
            have hal3 := allK_len st1 st1.ts.length
            rw [← all_eq] at hal3
            have hl4 := (ok_len hos).1
            have cs3 := fun H => sameInts_call W H st1.all st1.all (by omega)
            simp only [decide_true] at cs3
            have hsub := hsub1.trans hsub2
            have hcx2 := hsub _ _ hcx
            have hbd2 := hsub _ _ hbd
            generalize st1.all = AL at *
            generalize stR K1 l2 st1 = K2 at *
            clear cA hatR hatP hlb hlc hne hcap hcap2 hos hsub1 hsub2 hsp hda
            simp only [lapp_cons, lapp_nil]
            (with_reducible apply runO_go); simp only [go_sem, *]
            repeat' (first
    | (with_reducible apply run_seq)
    | (with_reducible apply run_inBlock)
    | (with_reducible apply run_skip)
    | ((with_reducible apply run_go); simp only [go_sem, *])
    | ((with_reducible apply run_drawGo Cl.zero Cl.zero_plain mixed); (focus kernel_rfl); simp only [go_sem, *])
    | ((with_reducible apply run_cond_f); (focus (simp only [go_sem, *]; done)))
    | ((with_reducible apply runD_callFG known26); (focus exact ⟨rfl, rfl⟩); (focus (simp only [go_sem, *]; rfl)); (focus (intro _; simp only [go_sem, *]; exact cOw _ (by (repeat (first | assumption | exact Heap.sub_refl _ | refine Heap.sub_congr ?_ | refine Heap.sub_set ?_ (by assumption) | refine Heap.sub_set2 ?_ (by first | assumption | (simp only [*]; done) | (simp only [Heap.set_none', stH_none, ne_eq, *, not_false_eq_true, and_self]; done)))); done))); (with_reducible first | apply runD_go Cl.zero_plain | apply runD_goC); simp only [go_sem, *])
    | ((with_reducible apply runD_callFG known27); (focus exact ⟨rfl, rfl⟩); (focus (simp only [go_sem, *]; rfl)); (focus (intro _; simp only [go_sem, *]; exact cLf _ (by (repeat (first | assumption | exact Heap.sub_refl _ | refine Heap.sub_congr ?_ | refine Heap.sub_set ?_ (by assumption) | refine Heap.sub_set2 ?_ (by first | assumption | (simp only [*]; done) | (simp only [Heap.set_none', stH_none, ne_eq, *, not_false_eq_true, and_self]; done)))); done))); (with_reducible first | apply runD_go Cl.zero_plain | apply runD_goC); simp only [go_sem, *])
    | ((with_reducible apply runD_callFG known28); (focus exact ⟨rfl, rfl⟩); (focus (simp only [go_sem, *]; rfl)); (focus (intro _; simp only [go_sem, *]; exact cAs _ (by (repeat (first | assumption | exact Heap.sub_refl _ | refine Heap.sub_congr ?_ | refine Heap.sub_set ?_ (by assumption) | refine Heap.sub_set2 ?_ (by first | assumption | (simp only [*]; done) | (simp only [Heap.set_none', stH_none, ne_eq, *, not_false_eq_true, and_self]; done)))); done))); (with_reducible first | apply runD_go Cl.zero_plain | apply runD_goC); simp only [go_sem, *])
    | ((with_reducible apply runD_callFG known29); (focus exact ⟨rfl, rfl⟩); (focus (simp only [go_sem, *]; rfl)); (focus (intro _; simp only [go_sem, *]; exact cLn _ (by (repeat (first | assumption | exact Heap.sub_refl _ | refine Heap.sub_congr ?_ | refine Heap.sub_set ?_ (by assumption) | refine Heap.sub_set2 ?_ (by first | assumption | (simp only [*]; done) | (simp only [Heap.set_none', stH_none, ne_eq, *, not_false_eq_true, and_self]; done)))); done))); (with_reducible first | apply runD_go Cl.zero_plain | apply runD_goC); simp only [go_sem, *])
    | ((with_reducible apply runD_callFG known30); (focus exact ⟨rfl, rfl⟩); (focus (simp only [go_sem, *]; rfl)); (focus (intro _; simp only [go_sem, *]; exact cCl _ (by (repeat (first | assumption | exact Heap.sub_refl _ | refine Heap.sub_congr ?_ | refine Heap.sub_set ?_ (by assumption) | refine Heap.sub_set2 ?_ (by first | assumption | (simp only [*]; done) | (simp only [Heap.set_none', stH_none, ne_eq, *, not_false_eq_true, and_self]; done)))); done))); (with_reducible first | apply runD_go Cl.zero_plain | apply runD_goC); simp only [go_sem, *])
    | ((with_reducible apply runD_callFG known20); (focus exact ⟨rfl, rfl⟩); (focus (simp only [go_sem, *]; rfl)); (focus (intro _; simp only [go_sem, *]; exact cAl _)); (with_reducible first | apply runD_go Cl.zero_plain | apply runD_goC); simp only [go_sem, *])
    | ((with_reducible apply runD_callFG known19); (focus exact ⟨rfl, rfl⟩); (focus (simp only [go_sem, *]; rfl)); (focus (intro _; simp only [go_sem, *]; exact cs1 _)); (with_reducible first | apply runD_go Cl.zero_plain | apply runD_goC); simp only [go_sem, *])
    | ((with_reducible apply runD_callFG known19); (focus exact ⟨rfl, rfl⟩); (focus (simp only [go_sem, *]; rfl)); (focus (intro _; simp only [go_sem, *]; exact cs2 _)); (with_reducible first | apply runD_go Cl.zero_plain | apply runD_goC); simp only [go_sem, *])
    | ((with_reducible apply runD_callFG known31); (focus exact ⟨rfl, rfl⟩); (focus (simp only [go_sem, *]; rfl)); (focus (intro _; simp only [go_sem, *]; exact cP)); (with_reducible first | apply runD_go Cl.zero_plain | apply runD_goC); simp only [go_sem, *])
    | ((with_reducible apply runD_callFG known32); (focus exact ⟨rfl, rfl⟩); (focus (simp only [go_sem, *]; rfl)); (focus (intro _; simp only [go_sem, *]; exact cR)); (with_reducible first | apply runD_go Cl.zero_plain | apply runD_goC); simp only [go_sem, *])
    | ((with_reducible apply runD_callFG known19); (focus exact ⟨rfl, rfl⟩); (focus (simp only [go_sem, *]; rfl)); (focus (intro _; simp only [go_sem, *]; exact cs3 _)); (with_reducible first | apply runD_go Cl.zero_plain | apply runD_goC); simp only [go_sem, *]))
            refine run_drop (H' := Hx) (by (repeat (first | assumption | exact Heap.sub_refl _ | refine Heap.sub_congr ?_ | refine Heap.sub_set ?_ (by assumption) | refine Heap.sub_set2 ?_ (by first | assumption | (simp only [*]; done) | (simp only [Heap.set_none', stH_none, ne_eq, *, not_false_eq_true, and_self]; done)))); done) ?_
            refine IHq.out (list.length - (k + 1)) _ _ (by omega) ⟨k + 1, t2, d2, by omega, rfl, HB.out, (by simp only [go_sem, *]), (by simp only [go_sem, *]), (by simp only [go_sem, *]), (by simp only [go_sem, *]), (by simp only [go_sem, *]), trivial⟩
      · rw [hnD] at hbd
        clear hnD hgr
        rcases hSx.nd pf with ⟨h1, h2⟩ | ⟨x, y, h1, h2, h3⟩
        · have cF := dFind_none W hD hod h2
          have cDL : True := trivial
          have hw1 : t2.ow pf = -1 := by unfold Tr.ow; rw [h1]
          have hw2 : t2.lf pf = [] := by unfold Tr.lf; rw [h1]
          have hw3 : allB (t2.sl pf) 8 = [] := by unfold Tr.sl; rw [h1]; decide
          have cOw := fun H' (hk : Hx.sub H') => owner_call W H' l t2 (hT.mono hk) pf hpf
          have cLf := fun H' (hk : Hx.sub H') => tLeft_call W H' l t2 (hT.mono hk) pf hpf
          have cAs := fun H' (hk : Hx.sub H') => asleep_call W H' l t2 (hT.mono hk) pf hpf
          have cAl := fun H => setAll_call W H (t2.sl pf)
          rw [hw1] at cOw
          rw [hw2] at cLf
          rw [hw3] at cAl
          have cs1 := fun H => sameInts_call W H [] [] (by simp)
          have cs2 := cs1
          simp only [decide_true] at cs1 cs2
          have hi0 : intsC [] = [] := rfl
          rw [hi0] at cs1 cs2 cAl cLf
          generalize t2.sl pf = S1 at *
          clear hw1 hw2 hw3 h1 h2 hi0
          repeat' (first
    | (with_reducible apply run_seq)
    | (with_reducible apply run_skip)
    | ((with_reducible apply run_go); simp only [go_sem, *])
    | ((with_reducible apply run_cond_f); (focus (simp only [go_sem, *]; done)))
    | ((with_reducible apply runO_callF known22); simp only [go_sem, *]; refine (cF).use ?_; (with_reducible apply runO_go); simp only [go_sem, *])
    | ((with_reducible apply runO_buildSlice); (focus (simp only [go_sem]; rfl)); (focus (simp only [go_sem]; rfl)); (focus (simp only [go_sem]; rfl)); (focus rfl); (focus rfl); (focus (simp only [go_sem, *]; done)); (focus (simp only [go_sem, *]; done)); (focus decide); (with_reducible apply runO_go); simp only [go_sem, *]))
          (with_reducible apply runO_callF known24); simp only [go_sem, *]
          refine (at_call W Hx l t2 hT hOk pf hpf).mono (fun d1 K1 hh => ?_)
          rcases hh with ⟨he, rfl, hK⟩ | ⟨he, l1, hlb, hlc, hne, hcap, rfl, rfl⟩
          · obtain rfl := hK.symm
            have cA := dAt_call W Hx nb d2.lo d2.s0 d2.nD d2.cl hD.hb hD.hr hD.hs pf hpf
            unfold AtDQ at cA
            rw [hSat] at cA
            generalize (t2.at pf).1 = er at *
            (with_reducible apply runO_go); simp only [go_sem, *]
            repeat' (first
    | (with_reducible apply run_seq)
    | ((with_reducible apply run_go); simp only [go_sem, *]))
            (with_reducible apply runO_callF known25); simp only [go_sem, *]
            refine cA.mono (fun d3 K3 hh => ?_)
            rcases hh with ⟨_, rfl, hK3⟩ | ⟨he2, _⟩
            rotate_left
            · exact absurd he2 he
            obtain rfl := hK3.symm
            clear cA
            simp only [lapp_cons, lapp_nil]
            (with_reducible apply runO_go); simp only [go_sem, *]
            repeat' (first
    | (with_reducible apply run_seq)
    | (with_reducible apply run_inBlock)
    | (with_reducible apply run_skip)
    | ((with_reducible apply run_go); simp only [go_sem, *])
    | ((with_reducible apply run_drawGo Cl.zero Cl.zero_plain mixed); (focus kernel_rfl); simp only [go_sem, *])
    | ((with_reducible apply run_cond_f); (focus (simp only [go_sem, *]; done)))
    | ((with_reducible apply runD_skipF); (focus rfl); (focus (simp only [go_sem, *]; rfl)); (focus rfl); (with_reducible first | apply runD_go Cl.zero_plain | apply runD_goC); simp only [go_sem, *])
    | ((with_reducible apply runD_callFG known26); (focus exact ⟨rfl, rfl⟩); (focus (simp only [go_sem, *]; rfl)); (focus (intro _; simp only [go_sem, *]; exact cOw _ (by (repeat (first | assumption | exact Heap.sub_refl _ | refine Heap.sub_congr ?_ | refine Heap.sub_set ?_ (by assumption) | refine Heap.sub_set2 ?_ (by first | assumption | (simp only [*]; done) | (simp only [Heap.set_none', stH_none, ne_eq, *, not_false_eq_true, and_self]; done)))); done))); (with_reducible first | apply runD_go Cl.zero_plain | apply runD_goC); simp only [go_sem, *])
    | ((with_reducible apply runD_callFG known27); (focus exact ⟨rfl, rfl⟩); (focus (simp only [go_sem, *]; rfl)); (focus (intro _; simp only [go_sem, *]; exact cLf _ (by (repeat (first | assumption | exact Heap.sub_refl _ | refine Heap.sub_congr ?_ | refine Heap.sub_set ?_ (by assumption) | refine Heap.sub_set2 ?_ (by first | assumption | (simp only [*]; done) | (simp only [Heap.set_none', stH_none, ne_eq, *, not_false_eq_true, and_self]; done)))); done))); (with_reducible first | apply runD_go Cl.zero_plain | apply runD_goC); simp only [go_sem, *])
    | ((with_reducible apply runD_callFG known28); (focus exact ⟨rfl, rfl⟩); (focus (simp only [go_sem, *]; rfl)); (focus (intro _; simp only [go_sem, *]; exact cAs _ (by (repeat (first | assumption | exact Heap.sub_refl _ | refine Heap.sub_congr ?_ | refine Heap.sub_set ?_ (by assumption) | refine Heap.sub_set2 ?_ (by first | assumption | (simp only [*]; done) | (simp only [Heap.set_none', stH_none, ne_eq, *, not_false_eq_true, and_self]; done)))); done))); (with_reducible first | apply runD_go Cl.zero_plain | apply runD_goC); simp only [go_sem, *])
    | ((with_reducible apply runD_callFG known29); (focus exact ⟨rfl, rfl⟩); (focus (simp only [go_sem, *]; rfl)); (focus (intro _; simp only [go_sem, *]; exact cLn _ (by (repeat (first | assumption | exact Heap.sub_refl _ | refine Heap.sub_congr ?_ | refine Heap.sub_set ?_ (by assumption) | refine Heap.sub_set2 ?_ (by first | assumption | (simp only [*]; done) | (simp only [Heap.set_none', stH_none, ne_eq, *, not_false_eq_true, and_self]; done)))); done))); (with_reducible first | apply runD_go Cl.zero_plain | apply runD_goC); simp only [go_sem, *])
    | ((with_reducible apply runD_callFG known30); (focus exact ⟨rfl, rfl⟩); (focus (simp only [go_sem, *]; rfl)); (focus (intro _; simp only [go_sem, *]; exact cCl _ (by (repeat (first | assumption | exact Heap.sub_refl _ | refine Heap.sub_congr ?_ | refine Heap.sub_set ?_ (by assumption) | refine Heap.sub_set2 ?_ (by first | assumption | (simp only [*]; done) | (simp only [Heap.set_none', stH_none, ne_eq, *, not_false_eq_true, and_self]; done)))); done))); (with_reducible first | apply runD_go Cl.zero_plain | apply runD_goC); simp only [go_sem, *])
    | ((with_reducible apply runD_callFG known20); (focus exact ⟨rfl, rfl⟩); (focus (simp only [go_sem, *]; rfl)); (focus (intro _; simp only [go_sem, *]; exact cAl _)); (with_reducible first | apply runD_go Cl.zero_plain | apply runD_goC); simp only [go_sem, *])
    | ((with_reducible apply runD_callFG known19); (focus exact ⟨rfl, rfl⟩); (focus (simp only [go_sem, *]; rfl)); (focus (intro _; simp only [go_sem, *]; exact cs1 _)); (with_reducible first | apply runD_go Cl.zero_plain | apply runD_goC); simp only [go_sem, *]))
            refine run_drop (H' := Hx) (by (repeat (first | assumption | exact Heap.sub_refl _ | refine Heap.sub_congr ?_ | refine Heap.sub_set ?_ (by assumption) | refine Heap.sub_set2 ?_ (by first | assumption | (simp only [*]; done) | (simp only [Heap.set_none', stH_none, ne_eq, *, not_false_eq_true, and_self]; done)))); done) ?_
            refine IHq.out (list.length - (k + 1)) _ _ (by omega) ⟨k + 1, t2, d2, by omega, rfl, HB.out, (by simp only [go_sem, *]), (by simp only [go_sem, *]), (by simp only [go_sem, *]), (by simp only [go_sem, *]), (by simp only [go_sem, *]), trivial⟩
          · have hsub1 : Hx.sub (stP Hx l1 (t2.at pf).2.2) := stH_subH hlb hlc
            have hcx1 := hsub1 _ _ hcx
            obtain ⟨hos, hsp⟩ := hOst
            have hcap1 : (t2.at pf).2.2.ts.length ≤ l1.cap := by rw [hos.len, hsp]; exact hcap
            have hatP : AtP (stP Hx l1 (t2.at pf).2.2) l1 (t2.at pf).2.2 := stH_at hne hcap1
            have cA := dAt_call W (stP Hx l1 (t2.at pf).2.2) nb d2.lo d2.s0 d2.nD d2.cl (hsub1 _ _ hD.hb) (hD.hr.mono hsub1) hD.hs pf hpf
            unfold AtDQ at cA
            rw [hSat] at cA
            have hda := hs0len
            generalize (t2.at pf).2.1 = evs at *
            generalize (t2.at pf).2.2 = st1 at *
            generalize stP Hx l1 st1 = K1 at *
            clear hlb hlc hne hcap hcap1
            (with_reducible apply runO_go); simp only [go_sem, *]
            repeat' (first
    | (with_reducible apply run_seq)
    | ((with_reducible apply run_go); simp only [go_sem, *]))
            (with_reducible apply runO_callF known25); simp only [go_sem, *]
            refine cA.mono (fun d3 K3 hh => ?_)
            rcases hh with ⟨he2, _⟩ | ⟨_, l2, hlb, hlc, hne, hcap, rfl, rfl⟩
            · exact absurd he he2
            have hsub2 : K1.sub (stR K1 l2 st1) := stH_subH hlb hlc
            have hcap2 : st1.ts.length ≤ l2.cap := by rw [hos.len, hsp, ← hda]; exact hcap
            have hatR : AtR (stR K1 l2 st1) l2 st1 := stH_at hne hcap2
            have cP := mAll_call W (stR K1 l2 st1) l1 st1 (hatP.mono hsub2) hos
            have cR := rAll_call W (stR K1 l2 st1) l2 st1 hatR hos
            have hal3 := allK_len st1 st1.ts.length
            rw [← all_eq] at hal3
            have hl4 := (ok_len hos).1
            have cs3 := fun H => sameInts_call W H st1.all st1.all (by omega)
            simp only [decide_true] at cs3
            have hsub := hsub1.trans hsub2
            have hcx2 := hsub _ _ hcx
            have hbd2 := hsub _ _ hbd
            generalize st1.all = AL at *
            generalize stR K1 l2 st1 = K2 at *
            clear cA hatR hatP hlb hlc hne hcap hcap2 hos hsub1 hsub2 hsp hda
            simp only [lapp_cons, lapp_nil]
            (with_reducible apply runO_go); simp only [go_sem, *]
            repeat' (first
    | (with_reducible apply run_seq)
    | (with_reducible apply run_inBlock)
    | (with_reducible apply run_skip)
    | ((with_reducible apply run_go); simp only [go_sem, *])
    | ((with_reducible apply run_drawGo Cl.zero Cl.zero_plain mixed); (focus kernel_rfl); simp only [go_sem, *])
    | ((with_reducible apply run_cond_f); (focus (simp only [go_sem, *]; done)))
    | ((with_reducible apply runD_callFG known26); (focus exact ⟨rfl, rfl⟩); (focus (simp only [go_sem, *]; rfl)); (focus (intro _; simp only [go_sem, *]; exact cOw _ (by (repeat (first | assumption | exact Heap.sub_refl _ | refine Heap.sub_congr ?_ | refine Heap.sub_set ?_ (by assumption) | refine Heap.sub_set2 ?_ (by first | assumption | (simp only [*]; done) | (simp only [Heap.set_none', stH_none, ne_eq, *, not_false_eq_true, and_self]; done)))); done))); (with_reducible first | apply runD_go Cl.zero_plain | apply runD_goC); simp only [go_sem, *])
    | ((with_reducible apply runD_callFG known27); (focus exact ⟨rfl, rfl⟩); (focus (simp only [go_sem, *]; rfl)); (focus (intro _; simp only [go_sem, *]; exact cLf _ (by (repeat (first | assumption | exact Heap.sub_refl _ | refine Heap.sub_congr ?_ | refine Heap.sub_set ?_ (by assumption) | refine Heap.sub_set2 ?_ (by first | assumption | (simp only [*]; done) | (simp only [Heap.set_none', stH_none, ne_eq, *, not_false_eq_true, and_self]; done)))); done))); (with_reducible first | apply runD_go Cl.zero_plain | apply runD_goC); simp only [go_sem, *])
    | ((with_reducible apply runD_callFG known28); (focus exact ⟨rfl, rfl⟩); (focus (simp only [go_sem, *]; rfl)); (focus (intro _; simp only [go_sem, *]; exact cAs _ (by (repeat (first | assumption | exact Heap.sub_refl _ | refine Heap.sub_congr ?_ | refine Heap.sub_set ?_ (by assumption) | refine Heap.sub_set2 ?_ (by first | assumption | (simp only [*]; done) | (simp only [Heap.set_none', stH_none, ne_eq, *, not_false_eq_true, and_self]; done)))); done))); (with_reducible first | apply runD_go Cl.zero_plain | apply runD_goC); simp only [go_sem, *])
    | ((with_reducible apply runD_callFG known29); (focus exact ⟨rfl, rfl⟩); (focus (simp only [go_sem, *]; rfl)); (focus (intro _; simp only [go_sem, *]; exact cLn _ (by (repeat (first | assumption | exact Heap.sub_refl _ | refine Heap.sub_congr ?_ | refine Heap.sub_set ?_ (by assumption) | refine Heap.sub_set2 ?_ (by first | assumption | (simp only [*]; done) | (simp only [Heap.set_none', stH_none, ne_eq, *, not_false_eq_true, and_self]; done)))); done))); (with_reducible first | apply runD_go Cl.zero_plain | apply runD_goC); simp only [go_sem, *])
    | ((with_reducible apply runD_callFG known30); (focus exact ⟨rfl, rfl⟩); (focus (simp only [go_sem, *]; rfl)); (focus (intro _; simp only [go_sem, *]; exact cCl _ (by (repeat (first | assumption | exact Heap.sub_refl _ | refine Heap.sub_congr ?_ | refine Heap.sub_set ?_ (by assumption) | refine Heap.sub_set2 ?_ (by first | assumption | (simp only [*]; done) | (simp only [Heap.set_none', stH_none, ne_eq, *, not_false_eq_true, and_self]; done)))); done))); (with_reducible first | apply runD_go Cl.zero_plain | apply runD_goC); simp only [go_sem, *])
    | ((with_reducible apply runD_callFG known20); (focus exact ⟨rfl, rfl⟩); (focus (simp only [go_sem, *]; rfl)); (focus (intro _; simp only [go_sem, *]; exact cAl _)); (with_reducible first | apply runD_go Cl.zero_plain | apply runD_goC); simp only [go_sem, *])
    | ((with_reducible apply runD_callFG known19); (focus exact ⟨rfl, rfl⟩); (focus (simp only [go_sem, *]; rfl)); (focus (intro _; simp only [go_sem, *]; exact cs1 _)); (with_reducible first | apply runD_go Cl.zero_plain | apply runD_goC); simp only [go_sem, *])
    | ((with_reducible apply runD_callFG known31); (focus exact ⟨rfl, rfl⟩); (focus (simp only [go_sem, *]; rfl)); (focus (intro _; simp only [go_sem, *]; exact cP)); (with_reducible first | apply runD_go Cl.zero_plain | apply runD_goC); simp only [go_sem, *])
    | ((with_reducible apply runD_callFG known32); (focus exact ⟨rfl, rfl⟩); (focus (simp only [go_sem, *]; rfl)); (focus (intro _; simp only [go_sem, *]; exact cR)); (with_reducible first | apply runD_go Cl.zero_plain | apply runD_goC); simp only [go_sem, *])
    | ((with_reducible apply runD_callFG known19); (focus exact ⟨rfl, rfl⟩); (focus (simp only [go_sem, *]; rfl)); (focus (intro _; simp only [go_sem, *]; exact cs3 _)); (with_reducible first | apply runD_go Cl.zero_plain | apply runD_goC); simp only [go_sem, *]))
            refine run_drop (H' := Hx) (by (repeat (first | assumption | exact Heap.sub_refl _ | refine Heap.sub_congr ?_ | refine Heap.sub_set ?_ (by assumption) | refine Heap.sub_set2 ?_ (by first | assumption | (simp only [*]; done) | (simp only [Heap.set_none', stH_none, ne_eq, *, not_false_eq_true, and_self]; done)))); done) ?_
            refine IHq.out (list.length - (k + 1)) _ _ (by omega) ⟨k + 1, t2, d2, by omega, rfl, HB.out, (by simp only [go_sem, *]), (by simp only [go_sem, *]), (by simp only [go_sem, *]), (by simp only [go_sem, *]), (by simp only [go_sem, *]), trivial⟩
        · have hym := (dfnd_mem h2).1
          have cF := dFind_some W hD hod h2
          have cDL := dLeft_call W Hx y (hD.hn y hym) (hD.ht y hym) (hD.hd y hym) (hod.len y hym)
          have hny := hD.node h2
          have hw1 : t2.ow pf = y.ow := by unfold Tr.ow; rw [h1]; exact h3.ow
          have hw2 : t2.lf pf = leftD y 8 := by unfold Tr.lf; rw [h1]; exact nsim_left h3
          have hw3 : allB (t2.sl pf) 8 = y.sl := by unfold Tr.sl; rw [h1]; exact h3.sl.symm
          have hly := hSx.len y hym
          have hl8 := leftD_len y 8
          have cOw := fun H' (hk : Hx.sub H') => owner_call W H' l t2 (hT.mono hk) pf hpf
          have cLf := fun H' (hk : Hx.sub H') => tLeft_call W H' l t2 (hT.mono hk) pf hpf
          have cAs := fun H' (hk : Hx.sub H') => asleep_call W H' l t2 (hT.mono hk) pf hpf
          have cAl := fun H => setAll_call W H (t2.sl pf)
          rw [hw1] at cOw
          rw [hw2] at cLf
          rw [hw3] at cAl
          have cs1 := fun H => sameInts_call W H (leftD y 8) (leftD y 8) (by omega)
          have cs2 := fun H => sameInts_call W H y.sl y.sl (by omega)
          simp only [decide_true] at cs1 cs2
          generalize t2.sl pf = S1 at *
          generalize leftD y 8 = LL at *
          clear hw1 hw2 hw3 h1 h2 h3 hly hl8 hym
          repeat' (first
    | (with_reducible apply run_seq)
    | ((with_reducible apply run_go); simp only [go_sem, *])
    | ((with_reducible apply run_drawGo Cl.zero Cl.zero_plain mixed); (focus kernel_rfl); simp only [go_sem, *])
    | ((with_reducible apply run_cond_t); (focus (simp only [go_sem, *]; done)))
    | ((with_reducible apply runO_callF known22); simp only [go_sem, *]; refine (cF).use ?_; (with_reducible apply runO_go); simp only [go_sem, *])
    | ((with_reducible apply runD_callF known23); (focus rfl); (focus (simp only [go_sem, *]; exact cDL)); (with_reducible first | apply runD_go Cl.zero_plain | apply runD_goC); simp only [go_sem, *])
    | ((with_reducible apply runO_buildSlice); (focus (simp only [go_sem]; rfl)); (focus (simp only [go_sem]; rfl)); (focus (simp only [go_sem]; rfl)); (focus rfl); (focus rfl); (focus (simp only [go_sem, *]; done)); (focus (simp only [go_sem, *]; done)); (focus decide); (with_reducible apply runO_go); simp only [go_sem, *]))
          (with_reducible apply runO_callF known24); simp only [go_sem, *]
          refine (at_call W Hx l t2 hT hOk pf hpf).mono (fun d1 K1 hh => ?_)
          rcases hh with ⟨he, rfl, hK⟩ | ⟨he, l1, hlb, hlc, hne, hcap, rfl, rfl⟩
          · obtain rfl := hK.symm
            have cA := dAt_call W Hx nb d2.lo d2.s0 d2.nD d2.cl hD.hb hD.hr hD.hs pf hpf
            unfold AtDQ at cA
            rw [hSat] at cA
            generalize (t2.at pf).1 = er at *
            (with_reducible apply runO_go); simp only [go_sem, *]
            repeat' (first
    | (with_reducible apply run_seq)
    | ((with_reducible apply run_go); simp only [go_sem, *]))
            (with_reducible apply runO_callF known25); simp only [go_sem, *]
            refine cA.mono (fun d3 K3 hh => ?_)
            rcases hh with ⟨_, rfl, hK3⟩ | ⟨he2, _⟩
            rotate_left
            · exact absurd he2 he
            obtain rfl := hK3.symm
            clear cA
            simp only [lapp_cons, lapp_nil]
            (with_reducible apply runO_go); simp only [go_sem, *]
            repeat' (first
    | (with_reducible apply run_seq)
    | (with_reducible apply run_inBlock)
    | (with_reducible apply run_skip)
    | ((with_reducible apply run_go); simp only [go_sem, *])
    | ((with_reducible apply run_drawGo Cl.zero Cl.zero_plain mixed); (focus kernel_rfl); simp only [go_sem, *])
    | ((with_reducible apply run_cond_f); (focus (simp only [go_sem, *]; done)))
    | ((with_reducible apply runD_skipF); (focus rfl); (focus (simp only [go_sem, *]; rfl)); (focus rfl); (with_reducible first | apply runD_go Cl.zero_plain | apply runD_goC); simp only [go_sem, *])
    | ((with_reducible apply runD_callFG known26); (focus exact ⟨rfl, rfl⟩); (focus (simp only [go_sem, *]; rfl)); (focus (intro _; simp only [go_sem, *]; exact cOw _ (by (repeat (first | assumption | exact Heap.sub_refl _ | refine Heap.sub_congr ?_ | refine Heap.sub_set ?_ (by assumption) | refine Heap.sub_set2 ?_ (by first | assumption | (simp only [*]; done) | (simp only [Heap.set_none', stH_none, ne_eq, *, not_false_eq_true, and_self]; done)))); done))); (with_reducible first | apply runD_go Cl.zero_plain | apply runD_goC); simp only [go_sem, *])
    | ((with_reducible apply runD_callFG known27); (focus exact ⟨rfl, rfl⟩); (focus (simp only [go_sem, *]; rfl)); (focus (intro _; simp only [go_sem, *]; exact cLf _ (by (repeat (first | assumption | exact Heap.sub_refl _ | refine Heap.sub_congr ?_ | refine Heap.sub_set ?_ (by assumption) | refine Heap.sub_set2 ?_ (by first | assumption | (simp only [*]; done) | (simp only [Heap.set_none', stH_none, ne_eq, *, not_false_eq_true, and_self]; done)))); done))); (with_reducible first | apply runD_go Cl.zero_plain | apply runD_goC); simp only [go_sem, *])
    | ((with_reducible apply runD_callFG known28); (focus exact ⟨rfl, rfl⟩); (focus (simp only [go_sem, *]; rfl)); (focus (intro _; simp only [go_sem, *]; exact cAs _ (by (repeat (first | assumption | exact Heap.sub_refl _ | refine Heap.sub_congr ?_ | refine Heap.sub_set ?_ (by assumption) | refine Heap.sub_set2 ?_ (by first | assumption | (simp only [*]; done) | (simp only [Heap.set_none', stH_none, ne_eq, *, not_false_eq_true, and_self]; done)))); done))); (with_reducible first | apply runD_go Cl.zero_plain | apply runD_goC); simp only [go_sem, *])
    | ((with_reducible apply runD_callFG known29); (focus exact ⟨rfl, rfl⟩); (focus (simp only [go_sem, *]; rfl)); (focus (intro _; simp only [go_sem, *]; exact cLn _ (by (repeat (first | assumption | exact Heap.sub_refl _ | refine Heap.sub_congr ?_ | refine Heap.sub_set ?_ (by assumption) | refine Heap.sub_set2 ?_ (by first | assumption | (simp only [*]; done) | (simp only [Heap.set_none', stH_none, ne_eq, *, not_false_eq_true, and_self]; done)))); done))); (with_reducible first | apply runD_go Cl.zero_plain | apply runD_goC); simp only [go_sem, *])
    | ((with_reducible apply runD_callFG known30); (focus exact ⟨rfl, rfl⟩); (focus (simp only [go_sem, *]; rfl)); (focus (intro _; simp only [go_sem, *]; exact cCl _ (by (repeat (first | assumption | exact Heap.sub_refl _ | refine Heap.sub_congr ?_ | refine Heap.sub_set ?_ (by assumption) | refine Heap.sub_set2 ?_ (by first | assumption | (simp only [*]; done) | (simp only [Heap.set_none', stH_none, ne_eq, *, not_false_eq_true, and_self]; done)))); done))); (with_reducible first | apply runD_go Cl.zero_plain | apply runD_goC); simp only [go_sem, *])
    | ((with_reducible apply runD_callFG known20); (focus exact ⟨rfl, rfl⟩); (focus (simp only [go_sem, *]; rfl)); (focus (intro _; simp only [go_sem, *]; exact cAl _)); (with_reducible first | apply runD_go Cl.zero_plain | apply runD_goC); simp only [go_sem, *])
    | ((with_reducible apply runD_callFG known19); (focus exact ⟨rfl, rfl⟩); (focus (simp only [go_sem, *]; rfl)); (focus (intro _; simp only [go_sem, *]; exact cs1 _)); (with_reducible first | apply runD_go Cl.zero_plain | apply runD_goC); simp only [go_sem, *])
    | ((with_reducible apply runD_callFG known19); (focus exact ⟨rfl, rfl⟩); (focus (simp only [go_sem, *]; rfl)); (focus (intro _; simp only [go_sem, *]; exact cs2 _)); (with_reducible first | apply runD_go Cl.zero_plain | apply runD_goC); simp only [go_sem, *]))
            refine run_drop (H' := Hx) (by (repeat (first | assumption | exact Heap.sub_refl _ | refine Heap.sub_congr ?_ | refine Heap.sub_set ?_ (by assumption) | refine Heap.sub_set2 ?_ (by first | assumption | (simp only [*]; done) | (simp only [Heap.set_none', stH_none, ne_eq, *, not_false_eq_true, and_self]; done)))); done) ?_
            refine IHq.out (list.length - (k + 1)) _ _ (by omega) ⟨k + 1, t2, d2, by omega, rfl, HB.out, (by simp only [go_sem, *]), (by simp only [go_sem, *]), (by simp only [go_sem, *]), (by simp only [go_sem, *]), (by simp only [go_sem, *]), trivial⟩
          · have hsub1 : Hx.sub (stP Hx l1 (t2.at pf).2.2) := stH_subH hlb hlc
            have hcx1 := hsub1 _ _ hcx
            obtain ⟨hos, hsp⟩ := hOst
            have hcap1 : (t2.at pf).2.2.ts.length ≤ l1.cap := by rw [hos.len, hsp]; exact hcap
            have hatP : AtP (stP Hx l1 (t2.at pf).2.2) l1 (t2.at pf).2.2 := stH_at hne hcap1
            have cA := dAt_call W (stP Hx l1 (t2.at pf).2.2) nb d2.lo d2.s0 d2.nD d2.cl (hsub1 _ _ hD.hb) (hD.hr.mono hsub1) hD.hs pf hpf
            unfold AtDQ at cA
            rw [hSat] at cA
            have hda := hs0len
            generalize (t2.at pf).2.1 = evs at *
            generalize (t2.at pf).2.2 = st1 at *
            generalize stP Hx l1 st1 = K1 at *
            clear hlb hlc hne hcap hcap1
            (with_reducible apply runO_go); simp only [go_sem, *]
            repeat' (first
    | (with_reducible apply run_seq)
    | ((with_reducible apply run_go); simp only [go_sem, *]))
            (with_reducible apply runO_callF known25); simp only [go_sem, *]
            refine cA.mono (fun d3 K3 hh => ?_)
            rcases hh with ⟨he2, _⟩ | ⟨_, l2, hlb, hlc, hne, hcap, rfl, rfl⟩
            · exact absurd he he2
            have hsub2 : K1.sub (stR K1 l2 st1) := stH_subH hlb hlc
            have hcap2 : st1.ts.length ≤ l2.cap := by rw [hos.len, hsp, ← hda]; exact hcap
            have hatR : AtR (stR K1 l2 st1) l2 st1 := stH_at hne hcap2
            have cP := mAll_call W (stR K1 l2 st1) l1 st1 (hatP.mono hsub2) hos
            have cR := rAll_call W (stR K1 l2 st1) l2 st1 hatR hos
            have hal3 := allK_len st1 st1.ts.length
            rw [← all_eq] at hal3
            have hl4 := (ok_len hos).1
            have cs3 := fun H => sameInts_call W H st1.all st1.all (by omega)
            simp only [decide_true] at cs3
            have hsub := hsub1.trans hsub2
            have hcx2 := hsub _ _ hcx
            have hbd2 := hsub _ _ hbd
            generalize st1.all = AL at *
            generalize stR K1 l2 st1 = K2 at *
            clear cA hatR hatP hlb hlc hne hcap hcap2 hos hsub1 hsub2 hsp hda
            simp only [lapp_cons, lapp_nil]
            (with_reducible apply runO_go); simp only [go_sem, *]
            repeat' (first
    | (with_reducible apply run_seq)
    | (with_reducible apply run_inBlock)
    | (with_reducible apply run_skip)
    | ((with_reducible apply run_go); simp only [go_sem, *])
    | ((with_reducible apply run_drawGo Cl.zero Cl.zero_plain mixed); (focus kernel_rfl); simp only [go_sem, *])
    | ((with_reducible apply run_cond_f); (focus (simp only [go_sem, *]; done)))
    | ((with_reducible apply runD_callFG known26); (focus exact ⟨rfl, rfl⟩); (focus (simp only [go_sem, *]; rfl)); (focus (intro _; simp only [go_sem, *]; exact cOw _ (by (repeat (first | assumption | exact Heap.sub_refl _ | refine Heap.sub_congr ?_ | refine Heap.sub_set ?_ (by assumption) | refine Heap.sub_set2 ?_ (by first | assumption | (simp only [*]; done) | (simp only [Heap.set_none', stH_none, ne_eq, *, not_false_eq_true, and_self]; done)))); done))); (with_reducible first | apply runD_go Cl.zero_plain | apply runD_goC); simp only [go_sem, *])
    | ((with_reducible apply runD_callFG known27); (focus exact ⟨rfl, rfl⟩); (focus (simp only [go_sem, *]; rfl)); (focus (intro _; simp only [go_sem, *]; exact cLf _ (by (repeat (first | assumption | exact Heap.sub_refl _ | refine Heap.sub_congr ?_ | refine Heap.sub_set ?_ (by assumption) | refine Heap.sub_set2 ?_ (by first | assumption | (simp only [*]; done) | (simp only [Heap.set_none', stH_none, ne_eq, *, not_false_eq_true, and_self]; done)))); done))); (with_reducible first | apply runD_go Cl.zero_plain | apply runD_goC); simp only [go_sem, *])
    | ((with_reducible apply runD_callFG known28); (focus exact ⟨rfl, rfl⟩); (focus (simp only [go_sem, *]; rfl)); (focus (intro _; simp only [go_sem, *]; exact cAs _ (by (repeat (first | assumption | exact Heap.sub_refl _ | refine Heap.sub_congr ?_ | refine Heap.sub_set ?_ (by assumption) | refine Heap.sub_set2 ?_ (by first | assumption | (simp only [*]; done) | (simp only [Heap.set_none', stH_none, ne_eq, *, not_false_eq_true, and_self]; done)))); done))); (with_reducible first | apply runD_go Cl.zero_plain | apply runD_goC); simp only [go_sem, *])
    | ((with_reducible apply runD_callFG known29); (focus exact ⟨rfl, rfl⟩); (focus (simp only [go_sem, *]; rfl)); (focus (intro _; simp only [go_sem, *]; exact cLn _ (by (repeat (first | assumption | exact Heap.sub_refl _ | refine Heap.sub_congr ?_ | refine Heap.sub_set ?_ (by assumption) | refine Heap.sub_set2 ?_ (by first | assumption | (simp only [*]; done) | (simp only [Heap.set_none', stH_none, ne_eq, *, not_false_eq_true, and_self]; done)))); done))); (with_reducible first | apply runD_go Cl.zero_plain | apply runD_goC); simp only [go_sem, *])
    | ((with_reducible apply runD_callFG known30); (focus exact ⟨rfl, rfl⟩); (focus (simp only [go_sem, *]; rfl)); (focus (intro _; simp only [go_sem, *]; exact cCl _ (by (repeat (first | assumption | exact Heap.sub_refl _ | refine Heap.sub_congr ?_ | refine Heap.sub_set ?_ (by assumption) | refine Heap.sub_set2 ?_ (by first | assumption | (simp only [*]; done) | (simp only [Heap.set_none', stH_none, ne_eq, *, not_false_eq_true, and_self]; done)))); done))); (with_reducible first | apply runD_go Cl.zero_plain | apply runD_goC); simp only [go_sem, *])
    | ((with_reducible apply runD_callFG known20); (focus exact ⟨rfl, rfl⟩); (focus (simp only [go_sem, *]; rfl)); (focus (intro _; simp only [go_sem, *]; exact cAl _)); (with_reducible first | apply runD_go Cl.zero_plain | apply runD_goC); simp only [go_sem, *])
    | ((with_reducible apply runD_callFG known19); (focus exact ⟨rfl, rfl⟩); (focus (simp only [go_sem, *]; rfl)); (focus (intro _; simp only [go_sem, *]; exact cs1 _)); (with_reducible first | apply runD_go Cl.zero_plain | apply runD_goC); simp only [go_sem, *])
    | ((with_reducible apply runD_callFG known19); (focus exact ⟨rfl, rfl⟩); (focus (simp only [go_sem, *]; rfl)); (focus (intro _; simp only [go_sem, *]; exact cs2 _)); (with_reducible first | apply runD_go Cl.zero_plain | apply runD_goC); simp only [go_sem, *])
    | ((with_reducible apply runD_callFG known31); (focus exact ⟨rfl, rfl⟩); (focus (simp only [go_sem, *]; rfl)); (focus (intro _; simp only [go_sem, *]; exact cP)); (with_reducible first | apply runD_go Cl.zero_plain | apply runD_goC); simp only [go_sem, *])
    | ((with_reducible apply runD_callFG known32); (focus exact ⟨rfl, rfl⟩); (focus (simp only [go_sem, *]; rfl)); (focus (intro _; simp only [go_sem, *]; exact cR)); (with_reducible first | apply runD_go Cl.zero_plain | apply runD_goC); simp only [go_sem, *])
    | ((with_reducible apply runD_callFG known19); (focus exact ⟨rfl, rfl⟩); (focus (simp only [go_sem, *]; rfl)); (focus (intro _; simp only [go_sem, *]; exact cs3 _)); (with_reducible first | apply runD_go Cl.zero_plain | apply runD_goC); simp only [go_sem, *]))
            refine run_drop (H' := Hx) (by (repeat (first | assumption | exact Heap.sub_refl _ | refine Heap.sub_congr ?_ | refine Heap.sub_set ?_ (by assumption) | refine Heap.sub_set2 ?_ (by first | assumption | (simp only [*]; done) | (simp only [Heap.set_none', stH_none, ne_eq, *, not_false_eq_true, and_self]; done)))); done) ?_
            refine IHq.out (list.length - (k + 1)) _ _ (by omega) ⟨k + 1, t2, d2, by omega, rfl, HB.out, (by simp only [go_sem, *]), (by simp only [go_sem, *]), (by simp only [go_sem, *]), (by simp only [go_sem, *]), (by simp only [go_sem, *]), trivial⟩
    · intro hT
      have HT : Hid _ := hT
      clear hT IHq
      have hmore : (k : Int) ≤ ((k + 1 : Nat) : Int) := by omega
      by_cases k1 : kd = 1
      · subst k1
        have cM := makeB W hB2 hO pf hpf st n
        repeat' (first
    | ((with_reducible apply run_drawGoQ (Cl.own [13, 14] pb) [0, 1, 2, 3, 4, 5, 6, 8, 9, 10, 11, 12, 13, 7, 14, 15, 16] mixed); (focus kernel_rfl); simp only [go_sem, *])
    | (with_reducible apply run_seq)
    | (with_reducible apply run_block)
    | ((with_reducible apply run_go); simp only [go_sem, *])
    | ((with_reducible apply run_cond_t); (focus (simp only [go_sem, *]; done))))
        refine runD_callX known13 rfl ?_ (by simp only [go_sem, *]; exact cM) (fun d1 K1 hh => ?_)
        · intro d1 K1 hq
          obtain ⟨_, t2, hm, hB3⟩ := hq
          refine Cl.own_fr fun r hr => ?_
          rw [Heap.set_same] at hr
          cases hr
          exact hB3.sub _ _ hcellP
        obtain ⟨rfl, t2, hm, hB3⟩ := hh
        have qb := hB3.sub _ _ hcellP
        have cD := dMakeB W hS (by omega : k ≤ 1000) hpf hm hB3
        clear cM hB2
        (with_reducible apply runD_goC); simp only [go_sem, *]
        refine runD_callX known14 rfl ?_ (by simp only [go_sem, *]; exact cD) (fun d2 K2 hh => ?_)
        · intro d2 K2 hq
          obtain ⟨_, d4, hB4, _⟩ := hq
          refine Cl.own_fr fun r hr => ?_
          rw [qb] at hr
          cases hr
          exact hB4.sub _ _ hcellP
        obtain ⟨rfl, d4, hB4, hS4⟩ := hh
        clear cD hB3
        (with_reducible apply runD_goC); simp only [go_sem, *]
        repeat' (first
    | (with_reducible refine HT.out _ _ ?_)
    | (with_reducible apply run_inBlock))
        exact ⟨t2, d4, t.mkE pf, ⟨hB4, (hO.made hm).more hmore, hS4⟩, (by simp only [go_sem, *]), (by simp only [go_sem, *]), (by simp only [go_sem, *]), (by simp only [go_sem, *]), (by simp only [go_sem, *]), (by simp only [go_sem, *]), (by simp only [go_sem, *]), (by simp only [go_sem, *])⟩
      by_cases k2 : kd = 2
      · subst k2
        have cM := markB W hB2 hO pf hpf st
        repeat' (first
    | ((with_reducible apply run_drawGoQ (Cl.own [15, 16] pb) [0, 1, 2, 3, 4, 6, 7, 8, 9, 5, 10, 11, 12] mixed); (focus kernel_rfl); simp only [go_sem, *])
    | (with_reducible apply run_seq)
    | (with_reducible apply run_block)
    | ((with_reducible apply run_go); simp only [go_sem, *])
    | ((with_reducible apply run_cond_t); (focus (simp only [go_sem, *]; done)))
    | ((with_reducible apply run_cond_f); (focus (simp only [go_sem, *]; done))))
        refine runD_callX known15 rfl ?_ (by simp only [go_sem, *]; exact cM) (fun d1 K1 hh => ?_)
        · intro d1 K1 hq
          obtain ⟨_, hB3⟩ := hq
          refine Cl.own_fr fun r hr => ?_
          rw [Heap.set_same] at hr
          cases hr
          exact hB3.sub _ _ hcellP
        obtain ⟨rfl, hB3⟩ := hh
        have qb := hB3.sub _ _ hcellP
        have cD := dMarkB W hS (by omega : k ≤ 1000) hO hpf st hB3
        clear cM hB2
        (with_reducible apply runD_goC); simp only [go_sem, *]
        refine runD_callX known16 rfl ?_ (by simp only [go_sem, *]; exact cD) (fun d2 K2 hh => ?_)
        · intro d2 K2 hq
          obtain ⟨_, d4, hB4, _⟩ := hq
          refine Cl.own_fr fun r hr => ?_
          rw [qb] at hr
          cases hr
          exact hB4.sub _ _ hcellP
        obtain ⟨rfl, d4, hB4, hS4⟩ := hh
        clear cD hB3
        (with_reducible apply runD_goC); simp only [go_sem, *]
        repeat' (first
    | (with_reducible refine HT.out _ _ ?_)
    | (with_reducible apply run_inBlock))
        exact ⟨t.mark pf st, d4, t.mrE pf, ⟨hB4, (hO.mark pf st).more hmore, hS4⟩, (by simp only [go_sem, *]), (by simp only [go_sem, *]), (by simp only [go_sem, *]), (by simp only [go_sem, *]), (by simp only [go_sem, *]), (by simp only [go_sem, *]), (by simp only [go_sem, *]), (by simp only [go_sem, *])⟩
      by_cases k3 : kd = 3
      · subst k3
        repeat' (first
    | (with_reducible apply run_seq)
    | (with_reducible apply run_block)
    | ((with_reducible apply run_go); simp only [go_sem, *])
    | ((with_reducible apply run_cond_t); (focus (simp only [go_sem, *]; done)))
    | ((with_reducible apply run_cond_f); (focus (simp only [go_sem, *]; done))))
        (with_reducible apply runO_callF known17); simp only [go_sem, *]; refine (claimB W hB2 hO (by omega : (k : Int) ≤ 1000000) pf hpf n).mono (fun d1 K2 hh => ?_); obtain ⟨rfl, hB3⟩ := hh; (with_reducible apply runO_go); simp only [go_sem, *]
        have qb := hB3.sub _ _ hcellP
        have cD := dClaimB W hS (by omega : k ≤ 1000) hO hpf n hB3
        have hO2 : OkN (t.clm pf n) ((k + 1 : Nat) : Int) := (hO.clm pf n).more (by omega)
        clear hO hS hB2
        repeat' (first
    | (with_reducible apply run_seq)
    | ((with_reducible apply run_go); simp only [go_sem, *]))
        (with_reducible apply runO_callF known18); simp only [go_sem, *]; refine (cD).mono (fun d1 K4 hh => ?_); obtain ⟨rfl, d4, hB4, hS4⟩ := hh; (with_reducible apply runO_go); simp only [go_sem, *]
        have hl8 := allB_len (t.clR pf n).2.1 8
        have c8 := fun H => setAll_call W H (t.clR pf n).2.1
        have c9 := fun H => sameInts_call W H (allB (t.clR pf n).2.1 8) (allB (t.clR pf n).2.1 8) (by omega)
        simp only [decide_true] at c9
        clear cD hB3
        repeat' (first
    | (with_reducible refine HT.out _ _ ?_)
    | (with_reducible apply run_seq)
    | (with_reducible apply run_inBlock)
    | (with_reducible apply run_skip)
    | ((with_reducible apply run_go); simp only [go_sem, *])
    | ((with_reducible apply run_cond_f); (focus (simp only [go_sem, *]; done)))
    | ((with_reducible apply runO_callFG known20); (focus (simp only [go_sem, *]; rfl)); (focus (intro _; simp only [go_sem, *]; exact c8 _)); (with_reducible apply runO_go); simp only [go_sem, *])
    | ((with_reducible apply runO_callFG known19); (focus (simp only [go_sem, *]; rfl)); (focus (intro _; simp only [go_sem, *]; exact c9 _)); (with_reducible apply runO_go); simp only [go_sem, *]))
        exact ⟨t.clm pf n, d4, (t.clR pf n).2.2, ⟨hB4, hO2, hS4⟩, (by simp only [go_sem, *]), (by simp only [go_sem, *]), (by simp only [go_sem, *]), (by simp only [go_sem, *]), (by simp only [go_sem, *]), (by simp only [go_sem, *]), (by simp only [go_sem, *]), (by simp only [go_sem, *])⟩
      · repeat' (first
    | (with_reducible apply run_seq)
    | (with_reducible apply run_block)
    | ((with_reducible apply run_go); simp only [go_sem, *])
    | ((with_reducible apply run_cond_f); (focus (simp only [go_sem, *]; done))))
        (with_reducible apply runO_callF known21); simp only [go_sem, *]; refine (handB W hB2 pf hpf n).mono (fun d1 K2 hh => ?_); obtain ⟨rfl, hB3⟩ := hh; (with_reducible apply runO_go); simp only [go_sem, *]
        have qb := hB3.sub _ _ hcellP
        have hod := hS.okD (by omega : k ≤ 1000)
        rcases hS.nd pf with ⟨h1, h2⟩ | ⟨x, y, h1, h2, h3⟩
        · have cF := dFind_none W hB3.atD hod h2
          have e1 : t.mrE pf = 6 := by unfold Tr.mrE; rw [h1]; rfl
          have e2 : t.hand pf n = t := by unfold Tr.hand; rw [h1]
          rw [e2] at hB3
          rw [e1]
          clear hB2 e1 e2 h1 h2
          repeat' (first
    | (with_reducible refine HT.out _ _ ?_)
    | (with_reducible apply run_seq)
    | (with_reducible apply run_inBlock)
    | ((with_reducible apply run_go); simp only [go_sem, *])
    | ((with_reducible apply run_cond_f); (focus (simp only [go_sem, *]; done)))
    | ((with_reducible apply runO_callF known22); simp only [go_sem, *]; refine (cF).use ?_; (with_reducible apply runO_go); simp only [go_sem, *]))
          exact ⟨t, d, 6, ⟨hB3, hO.more hmore, hS.more (by omega)⟩, (by simp only [go_sem, *]), (by simp only [go_sem, *]), (by simp only [go_sem, *]), (by simp only [go_sem, *]), (by simp only [go_sem, *]), (by simp only [go_sem, *]), (by simp only [go_sem, *]), (by simp only [go_sem, *])⟩
        · have cF := dFind_some W hB3.atD hod h2
          have e1 : t.mrE pf = 0 := by unfold Tr.mrE; rw [h1]; rfl
          obtain ⟨d4, hB4, hS4⟩ := dHandB hS n hB3 h2
          have hny := hB3.atD.node h2
          rw [e1]
          clear hB2 e1 h1 h2
          repeat' (first
    | (with_reducible refine HT.out _ _ ?_)
    | (with_reducible apply run_seq)
    | (with_reducible apply run_inBlock)
    | ((with_reducible apply run_go); simp only [go_sem, *])
    | ((with_reducible apply run_cond_t); (focus (simp only [go_sem, *]; done)))
    | ((with_reducible apply runO_store); (focus (simp only [go_sem]; rfl)); (focus (simp only [go_sem, *]; rfl)); (focus (simp only [go_sem, *]; rfl)); (focus (simp only [go_sem, *]; done)); (focus (simp only [go_sem, *]; done)); (focus (simp only [go_sem, *]; done)); (with_reducible apply runO_go); simp only [go_sem, *, Heap.set_set])
    | ((with_reducible apply runO_callF known22); simp only [go_sem, *]; refine (cF).use ?_; (with_reducible apply runO_go); simp only [go_sem, *]))
          exact ⟨t.hand pf n, d4, 0, ⟨hB4, (hO.hand pf n).more hmore, hS4⟩, (by simp only [go_sem, *]), (by simp only [go_sem, *]), (by simp only [go_sem, *]), (by simp only [go_sem, *]), (by simp only [go_sem, *]), (by simp only [go_sem, *]), (by simp only [go_sem, *]), (by simp only [go_sem, *])⟩
  · obtain rfl : k = list.length := by omega
    repeat' (first
    | (with_reducible apply run_seq)
    | (with_reducible apply run_exit rfl)
    | ((with_reducible apply run_go); simp only [go_sem, *])
    | ((with_reducible apply run_cond_f); (focus (simp only [go_sem, *]; done)))
    | ((with_reducible apply run_ret Try.func3 res3 (H' := H)); (focus (simp only [go_sem, *]; rfl)); (focus trivial); (focus (repeat (first | assumption | exact Heap.sub_refl _ | refine Heap.sub_congr ?_ | refine Heap.sub_set ?_ (by assumption) | refine Heap.sub_set2 ?_ (by first | assumption | (simp only [*]; done) | (simp only [Heap.set_none', stH_none, ne_eq, *, not_false_eq_true, and_self]; done)))))))
    rfl
end Go.Proofs.Ytcfeklnmampndaa
