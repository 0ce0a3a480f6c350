/-
  The law of rows: where a node stands its prefix can be done, and all its beginnings have nodes.
-/
import Derived.Test.YtcfeklnmampndaaTrL
import Derived.Test.YtcfeklnmampndaaTrM
import Derived.Test.YtcfeklnmampndaaIter
set_option linter.unusedSimpArgs false
set_option linter.unusedVariables false
namespace Go.Proofs.Ytcfeklnmampndaa
open Go Go.Sn Go.RowKit
-- NONE stH_none

def strsC (l : List Ky) : List (List D) := l.map fun k => [.v (.string (strL k))]
@[go_sem] theorem strsC_length (l : List Ky) : (strsC l).length = l.length := by simp [strsC]
@[go_sem] theorem strsC_get (l : List Ky) (n : Nat) (h : n < l.length) : (strsC l).getD n [] = [.v (.string (strL (l.getD n default)))] := by simp [strsC, List.getD, h]
theorem strsC_all (l : List Ky) : ∀ ds ∈ strsC l, ds.length = 1 := by intro ds h; simp only [strsC, List.mem_map] at h; obtain ⟨n, _, rfl⟩ := h; rfl
theorem strsC_snoc (l : List Ky) (k : Ky) : strsC (l ++ [k]) = strsC l ++ [[.v (.string (strL k))]] := by simp [strsC]
theorem strL_take (k : Ky) (i : Nat) : (strL k).extract 0 i = strL (k.take i) := by
  apply ByteArray.ext
  simp [strL, ByteArray.data_extract]
theorem coll_shape {H0 K : Heap} {e sz : Nat} {xs : List (List D)} {d : D} (h : Coll H0 e sz xs d K) : (d = .nil ∧ xs = []) ∨ ∃ b cap, d = .own b cap xs := by
  cases h with
  | none h => exact .inl ⟨rfl, h⟩
  | some b cap hb => exact .inr ⟨b, cap, rfl⟩
theorem run_cut {P : Program} {W : World} {f : FuncId} {N : Nat} {Q : D → Heap → Prop} {c : Item} {rest : List Item} {env : Env} {H : Heap} (R : Env → Heap → Prop)
    (h1 : ∀ e' H', R e' H' → RunA P W f N Q rest e' H') (h2 : (∀ e' H', R e' H' → RunA P W f N Q rest e' H') → RunA P W f N Q (c :: rest) env H) : RunA P W f N Q (c :: rest) env H := h2 h1

set_option maxRecDepth 100000 in
set_option maxHeartbeats 16000000 in
theorem treeRows_call (W : World) (H : Heap) (p : Pg) (fuel : Int) (list : List Cl1) (hp : p.th.length ≤ 4000000000000000) (hl : list.length ≤ 4000000000000000) :
    CallA Try.prog W 6 [.agg (pgC p), .v (.int .i64 fuel), .list (clsC list)] H fun r H' => r = .v (.bool true) := by
  refine call_in Try.func6 rfl Try.ntmps6 (by simp) ?_
  have c0 := fun H => awake10_call W H
  have c1 := fun H => few_call W H p hp
  have c2 := fun H => fewO_call W H list hl
  by_cases hf : fewP p = true
  rotate_left
  · rw [Bool.not_eq_true] at hf
    rw [hf] at c1
    repeat' (first
    | (with_reducible apply run_seq)
    | ((with_reducible apply run_go); simp only [go_sem, *])
    | ((with_reducible apply run_cond_t); (focus (simp only [go_sem, *]; done)))
    | ((with_reducible apply runO_box); (focus (simp only [go_sem, *]; done)); intro pb hpb; have hfb := Heap.ne_of_none hpb; (try simp only [Heap.set_none', stH_none] at hpb); (with_reducible apply runO_go); simp only [go_sem, *])
    | ((with_reducible apply runO_skipF); (focus (simp only [go_sem, *]; rfl)); (focus rfl); (with_reducible apply runO_go); simp only [go_sem, *])
    | ((with_reducible apply runO_callF known7); simp only [go_sem, *]; refine (c0 _).use ?_; (with_reducible apply runO_go); simp only [go_sem, *])
    | ((with_reducible apply runO_callFG known8); (focus (simp only [go_sem, *]; rfl)); (focus (intro _; simp only [go_sem, *]; exact c1 _)); (with_reducible apply runO_go); simp only [go_sem, *])
    | ((with_reducible apply run_ret Try.func6 res6 (H' := H)); (focus (simp only [go_sem, *]; rfl)); (focus trivial); (focus (repeat (first | assumption | exact Heap.sub_refl _ | refine Heap.sub_congr ?_ | refine Heap.sub_set ?_ (by assumption) | refine Heap.sub_set2 ?_ (by first | assumption | (simp only [*]; done) | (simp only [Heap.set_none', stH_none, ne_eq, *, not_false_eq_true, and_self]; done)))))))
    rfl
  by_cases hg : fewO list = true
  rotate_left
  · rw [Bool.not_eq_true] at hg
    rw [hf] at c1
    rw [hg] at c2
    repeat' (first
    | (with_reducible apply run_seq)
    | ((with_reducible apply run_go); simp only [go_sem, *])
    | ((with_reducible apply run_cond_t); (focus (simp only [go_sem, *]; done)))
    | ((with_reducible apply runO_box); (focus (simp only [go_sem, *]; done)); intro pb hpb; have hfb := Heap.ne_of_none hpb; (try simp only [Heap.set_none', stH_none] at hpb); (with_reducible apply runO_go); simp only [go_sem, *])
    | ((with_reducible apply runO_callF known7); simp only [go_sem, *]; refine (c0 _).use ?_; (with_reducible apply runO_go); simp only [go_sem, *])
    | ((with_reducible apply runO_callFG known8); (focus (simp only [go_sem, *]; rfl)); (focus (intro _; simp only [go_sem, *]; exact c1 _)); (with_reducible apply runO_go); simp only [go_sem, *])
    | ((with_reducible apply runO_callFG known9); (focus (simp only [go_sem, *]; rfl)); (focus (intro _; simp only [go_sem, *]; exact c2 _)); (with_reducible apply runO_go); simp only [go_sem, *])
    | ((with_reducible apply run_ret Try.func6 res6 (H' := H)); (focus (simp only [go_sem, *]; rfl)); (focus trivial); (focus (repeat (first | assumption | exact Heap.sub_refl _ | refine Heap.sub_congr ?_ | refine Heap.sub_set ?_ (by assumption) | refine Heap.sub_set2 ?_ (by first | assumption | (simp only [*]; done) | (simp only [Heap.set_none', stH_none, ne_eq, *, not_false_eq_true, and_self]; done)))))))
    rfl
  rw [hf] at c1
  rw [hg] at c2
  have F := few_of hf
  have HG : Hid _ := hg
  clear hf hg
  repeat' (first
    | (with_reducible apply run_seq)
    | (with_reducible apply run_skip)
    | ((with_reducible apply run_go); simp only [go_sem, *])
    | ((with_reducible apply run_cond_f); (focus (simp only [go_sem, *]; done)))
    | ((with_reducible apply runO_box); (focus (simp only [go_sem, *]; done)); intro pb hpb; have hfb := Heap.ne_of_none hpb; (try simp only [Heap.set_none', stH_none] at hpb); (with_reducible apply runO_go); simp only [go_sem, *])
    | ((with_reducible apply runO_callF known7); simp only [go_sem, *]; refine (c0 _).use ?_; (with_reducible apply runO_go); simp only [go_sem, *])
    | ((with_reducible apply runO_callFG known8); (focus (simp only [go_sem, *]; rfl)); (focus (intro _; simp only [go_sem, *]; exact c1 _)); (with_reducible apply runO_go); simp only [go_sem, *])
    | ((with_reducible apply runO_callFG known9); (focus (simp only [go_sem, *]; rfl)); (focus (intro _; simp only [go_sem, *]; exact c2 _)); (with_reducible apply runO_go); simp only [go_sem, *]))
  clear c0 c1 c2
  generalize pb = p3 at *
  have hs02 : H.sub (H.set p3 (.cells (pgC p) 24)) := Heap.sub_set (Heap.sub_refl _) hpb
  generalize H.set p3 (.cells (pgC p) 24) = H2 at *
  (with_reducible apply runO_callF known10); simp only [go_sem, *]
  refine (newT_call W _ p fuel F (fun c hc => by have := F.code c hc; omega)).mono (fun d1 K hh => ?_)
  rcases hh with ⟨hok, l, hlb, hlm, hne, rfl, hK⟩ | ⟨_, rfl, hK⟩
  rotate_left
  · obtain rfl := hK.symm
    (with_reducible apply runO_go); simp only [go_sem, *]
    repeat' (first
    | (with_reducible apply run_seq)
    | ((with_reducible apply run_go); simp only [go_sem, *])
    | ((with_reducible apply run_cond_t); (focus (simp only [go_sem, *]; done)))
    | ((with_reducible apply run_ret Try.func6 res6 (H' := H)); (focus (simp only [go_sem, *]; rfl)); (focus trivial); (focus (repeat (first | assumption | exact Heap.sub_refl _ | refine Heap.sub_congr ?_ | refine Heap.sub_set ?_ (by assumption) | refine Heap.sub_set2 ?_ (by first | assumption | (simp only [*]; done) | (simp only [Heap.set_none', stH_none, ne_eq, *, not_false_eq_true, and_self]; done)))))))
    rfl
  have h0 : AtF H2 K l (Tr.new p fuel) := by rw [hK]; exact newT_F (Heap.sub_refl _) hlb hlm hne
  have o0 := okN_new hok (fun c hc => by have := F.code c hc; omega)
  clear hK hlb hlm hne hok hfb hpb
  (with_reducible apply runO_go); simp only [go_sem, *]
  repeat' (first
    | (with_reducible apply run_seq)
    | (with_reducible apply run_block)
    | (with_reducible apply run_skip)
    | ((with_reducible apply run_go); simp only [go_sem, *])
    | ((with_reducible apply run_cond_f); (focus (simp only [go_sem, *]; done))))
  refine run_loop (fun nq eq Hq => ∃ (k : Nat) (t : Tr) (H0 : Heap), k ≤ list.length ∧ nq = list.length - k ∧ (AtF H2 H0 l t ∧ OkN t (k : Int) ∧ Shut t ∧ t.keys.length ≤ k) ∧ eq 7 = pT l ∧ eq 41 = .list (clsC list) ∧ eq 42 = .v (.int .i64 (list.length : Int)) ∧ eq 43 = .v (.int .i64 (k : Int)) ∧ Coll (H0) (9) (1) (strsC t.keys) (eq 9) Hq) (list.length)
      ⟨0, Tr.new p fuel, K, Nat.zero_le _, rfl, ⟨h0, o0, shut_new, Nat.le_refl 0⟩, (by simp only [go_sem, *]), (by simp only [go_sem, *]), (by simp only [go_sem, *]), (by simp only [go_sem] <;> rfl), (by simp only [go_sem]; exact .none rfl)⟩ ?_
  rintro nq eq Hq ih ⟨k, t, H0, qk, rfl, vq0, qs7, qs41, qs42, qs43, cq⟩
  generalize hqc : eq 9 = dq at cq
  have IHq : Hid _ := ih
  clear ih
  have Iq0 : Hid _ := vq0
  clear vq0
  obtain ⟨hA0, hO, hS, hkl⟩ := Iq0.out
  have hl100 := fewO_len HG.out
  obtain ⟨Hc, hcc, hA⟩ := tree_coll cq hA0
  have hsA : H.sub Hq := (hs02.trans hcc.sub).trans hA.sub
  by_cases hlt : k < list.length
  · have hw := wrap_succ (k := k) (by omega)
    have hpf := fewO_pf HG.out hlt
    have hal := clsC_all list
    generalize ho : list.getD k default = o at *
    obtain ⟨kd, n, pf, st⟩ := o
    replace hpf : okS pf := hpf
    have HC0 : Hid _ := cq
    clear h0 o0 Iq0 hA0 cq
    repeat' (first
    | (with_reducible apply run_seq)
    | ((with_reducible apply run_go); simp only [go_sem, *]))
    ((with_reducible apply run_cond_t); (focus (simp only [go_sem, *]; done)))
    repeat' (first
    | (with_reducible apply run_seq)
    | (with_reducible apply run_skip))
    (with_reducible apply run_block)
    repeat' (first
    | (with_reducible apply run_seq)
    | ((with_reducible apply run_go); simp only [go_sem, *])
    | ((with_reducible apply runO_alloc); (focus (simp only [go_sem, *]; rfl)); intro pb hpb; have hfb := Heap.ne_of_none hpb; (try simp only [Heap.set_none', stH_none] at hpb); (with_reducible apply runO_go); simp only [go_sem, *])
    | ((with_reducible apply runO_store); (focus (simp only [go_sem]; rfl)); (focus (simp only [go_sem, *]; rfl)); (focus (simp only [go_sem, *]; rfl)); (focus (simp only [go_sem, *]; done)); (focus (simp only [go_sem, *]; done)); (focus (simp only [go_sem, *]; done)); (with_reducible apply runO_go); simp only [go_sem, *, Heap.set_set]))
    have hpbB := hA.none hpb
    have hF2 := hA.fresh (.cells [.v (.int .i64 kd), .v (.int .i64 n), .v (.string (strL pf)), .v (.int .u8 (st.toNat : Int))] 40) hpb
    refine run_cut (fun e' Hx => ∃ (t2 : Tr) (H0' : Heap), (AtF H2 H0' l t2 ∧ OkN t2 ((k + 1 : Nat) : Int) ∧ Shut t2 ∧ t2.keys.length ≤ k + 1) ∧ e' 7 = pT l ∧ e' 41 = .list (clsC list) ∧ e' 42 = .v (.int .i64 (list.length : Int)) ∧ e' 43 = .v (.int .i64 (k : Int)) ∧
      Coll H0' 9 1 (strsC t2.keys) (e' 9) Hx) ?_ ?_
    · rintro e' Hx ⟨t2, H0', ⟨hAx0, hOx, hSx, hkl2⟩, s7, s41, s42, s43, hcx⟩
      obtain ⟨Hcx, hccx, hAx⟩ := tree_coll hcx hAx0
      have hsX : H.sub Hx := (hs02.trans hccx.sub).trans hAx.sub
      have hT := hAx.ht
      clear hF2 hpbB hA hcc hO hS hkl hAx hccx hsA
      generalize he9 : e' 9 = d9 at *
      have HCX : Hid _ := hcx
      rcases coll_shape hcx with ⟨hd, hxs⟩ | ⟨bb, cap, hd⟩
      · subst hd
        clear hcx
        have HI : Hid _ := And.intro hAx0 (And.intro hOx (And.intro hSx hkl2))
        clear hAx0 hOx hSx hkl2 hT
        repeat' (first
    | (with_reducible apply run_seq)
    | (with_reducible apply run_block)
    | ((with_reducible apply run_go); simp only [go_sem, *]))
        refine run_loop1 ?_
        repeat' (first
    | (with_reducible apply run_seq)
    | (with_reducible apply run_inBlock)
    | (with_reducible apply run_exit rfl)
    | ((with_reducible apply run_go); simp only [go_sem, *])
    | ((with_reducible apply run_cond_f); (focus (simp only [go_sem, *]; done))))
        refine IHq.out (list.length - (k + 1)) _ _ (by omega) ⟨k + 1, t2, H0', by omega, rfl, HI.out, (by simp only [go_sem, *]), (by simp only [go_sem, *]), (by simp only [go_sem, *]), (by simp only [go_sem, *]), ?_⟩
        simp only [go_sem, *]
        have hn := HCX.out
        rw [hxs] at hn
        exact hn
      · subst hd
        clear hcx
        repeat' (first
    | (with_reducible apply run_seq)
    | (with_reducible apply run_block)
    | ((with_reducible apply run_go); simp only [go_sem, *]))
        refine run_loop (fun na ea Ha => ∃ (j : Nat), j ≤ t2.keys.length ∧ na = t2.keys.length - j ∧ ea 7 = pT l ∧ ea 9 = .own bb cap (strsC t2.keys) ∧ ea 41 = .list (clsC list) ∧ ea 42 = .v (.int .i64 (list.length : Int)) ∧ ea 43 = .v (.int .i64 (k : Int)) ∧ ea 81 = .own bb cap (strsC t2.keys) ∧ ea 82 = .v (.int .i64 (t2.keys.length : Int)) ∧ ea 83 = .v (.int .i64 (j : Int)) ∧ Hx = Ha) (t2.keys.length)
            ⟨0, Nat.zero_le _, rfl, (by simp only [go_sem, *]), (by simp only [go_sem, *]), (by simp only [go_sem, *]), (by simp only [go_sem, *]), (by simp only [go_sem, *]), (by simp only [go_sem, *]), (by simp only [go_sem, *]), (by simp only [go_sem] <;> rfl), rfl⟩ ?_
        rintro na ea Ha ih ⟨j, ak, rfl, as7, as9, as41, as42, as43, as81, as82, as83, rfl⟩
        have IHa : Hid _ := ih
        clear ih
        by_cases hj : j < t2.keys.length
        · have hwj := wrap_succ (k := j) (by omega)
          have hmem : t2.keys.getD j default ∈ t2.keys := by simp [List.getD, hj]
          generalize hsd : t2.keys.getD j default = s at *
          obtain ⟨x, hx⟩ := keys_fnd hmem
          have hs0 := hOx.fnd hx
          have hsok : okS s := by have := fnd_mem hx; rw [← this.2]; exact hT.ok x this.1
          have hful := at_full hs0
          have hshut := hSx s x hx
          have HA0 : Hid _ := hAx0
          clear hAx0 hx
          repeat' (first
    | (with_reducible apply run_seq)
    | (with_reducible apply run_block)
    | (with_reducible apply run_skip)
    | ((with_reducible apply run_go); simp only [go_sem, *])
    | ((with_reducible apply run_cond_t); (focus (simp only [go_sem, *]; done))))
          (with_reducible apply runO_callF known24); simp only [go_sem, *]
          refine (at_call W Hx l t2 hT hOx.ok s hsok).mono (fun d1 K3 hh => ?_)
          rcases hh with ⟨h0, _⟩ | ⟨_, lo, hlb, hlc, hne, hcap, rfl, rfl⟩
          · exact absurd hs0 h0
          have hlow := fun i (hi : i < s.length) => at_low hOx.ok hs0 hi
          have hsub : Hx.sub (stP Hx lo (t2.at s).2.2) := stH_subH hlb hlc
          generalize (t2.at s).2.1 = evs at *
          generalize stP Hx lo (t2.at s).2.2 = K3 at *
          clear hlb hlc hne hcap hs0
          (with_reducible apply runO_go); simp only [go_sem, *]
          repeat' (first
    | (with_reducible apply run_seq)
    | (with_reducible apply run_skip)
    | ((with_reducible apply run_go); simp only [go_sem, *])
    | ((with_reducible apply run_cond_f); (focus (simp only [go_sem, *]; done))))
          refine runO_drop hsub ?_
          refine runO_range (s := strL s) Try.underlying9 (by simp only [go_sem, *]) (fun pi hpi => ?_)
          clear hsub
          (with_reducible apply runO_go); simp only [go_sem, *]
          repeat' (first
    | (with_reducible apply run_block))
          refine run_loop (fun nb eb Hb => ∃ (i : Nat), i ≤ s.length ∧ nb = s.length - i ∧ eb 7 = pT l ∧ eb 9 = .own bb cap (strsC t2.keys) ∧ eb 13 = dS s ∧ eb 41 = .list (clsC list) ∧ eb 42 = .v (.int .i64 (list.length : Int)) ∧ eb 43 = .v (.int .i64 (k : Int)) ∧ eb 81 = .own bb cap (strsC t2.keys) ∧ eb 82 = .v (.int .i64 (t2.keys.length : Int)) ∧ eb 83 = .v (.int .i64 (j : Int)) ∧ eb 104 = .v (.pointer (some ⟨pi, 0, none⟩)) ∧ Hx.set pi (.iter (strL s) i) = Hb) (s.length)
              ⟨0, Nat.zero_le _, rfl, (by simp only [go_sem, *]), (by simp only [go_sem, *]), (by simp only [go_sem, *]), (by simp only [go_sem, *]), (by simp only [go_sem, *]), (by simp only [go_sem, *]), (by simp only [go_sem, *]), (by simp only [go_sem, *]), (by simp only [go_sem, *]), (by simp only [go_sem, *]), rfl⟩ ?_
          rintro nb eb Hb ih ⟨i, bk, rfl, bs7, bs9, bs13, bs41, bs42, bs43, bs81, bs82, bs83, bs104, rfl⟩
          have IHb : Hid _ := ih
          clear ih
          by_cases hi : i < s.length
          · have hlo := hlow i hi
            have hget : ((strL s)[i]'(by rw [strL_size]; exact hi)) = s.getD i 0 := by simp [strL, List.getD, hi]; rfl
            have hex := strL_take s i
            have hle : (i : Int) ≤ (s.length : Int) := by omega
            have hltI : (i : Int) < (s.length : Int) := by omega
            obtain ⟨y, hy, hdn⟩ := hshut i hi
            have hok2 : okS (s.take i) := by unfold okS at hsok ⊢; rw [List.length_take]; omega
            have cM : ∀ H', Hx.sub H' → CallA Try.prog W 13 [pT l, dS (s.take i), .v (.int .u8 0), .v (.int .i64 0)] H' fun r H'' => r = .v (.int .i64 7) ∧ H'' = H' := fun H' hk => by
              have := make_no W H' l t2 (hT.mono hk) hOx.ok (s.take i) hok2 0#8 0 (by rw [again hOx hy]; decide)
              rw [again hOx hy] at this
              exact this
            have cL := fun H' (hk : Hx.sub H') => tLeft_call W H' l t2 (hT.mono hk) (s.take i) hok2
            have hnin := lf_dn hy hdn
            have hL8 := lf_len t2 (s.take i)
            generalize t2.lf (s.take i) = L at *
            have hhi : (strL s)[i]'(by rw [strL_size]; exact hi) = s.getD i 0 := hget
            repeat' (first
    | (with_reducible apply run_seq)
    | ((with_reducible apply run_go); simp only [go_sem, *]))
            refine runO_next (b := pi) (q := i) (s := strL s) (by simp only [go_sem, *]) (Heap.set_same _ _ _) (by rw [strL_size]; exact hi) (by rw [hget]; omega) ?_
            rw [hget, Heap.set_set]
            generalize hbd : s.getD i 0 = bt at *
            have w0 : IntKind.i64.wrap (bt.toNat : Int) = (bt.toNat : Int) := wrap_small (by omega) (by omega)
            clear hget hhi hlow hshut hdn hy
            (with_reducible apply runO_go); simp only [go_sem, *]
            repeat' (first
    | (with_reducible apply run_seq)
    | (with_reducible apply run_block)
    | (with_reducible apply run_skip)
    | ((with_reducible apply run_go); simp only [go_sem, *])
    | ((with_reducible apply run_cond_t); (focus (simp only [go_sem, *]; done)))
    | ((with_reducible apply run_cond_f); (focus (simp only [go_sem, *]; done)))
    | ((with_reducible apply runO_callF known13); simp only [go_sem, *]; refine (cM _ (by (repeat (first | assumption | exact Heap.sub_refl _ | refine Heap.sub_congr ?_ | refine Heap.sub_set ?_ (by assumption) | refine Heap.sub_set2 ?_ (by first | assumption | (simp only [*]; done) | (simp only [Heap.set_none', stH_none, ne_eq, *, not_false_eq_true, and_self]; done)))); done)).use ?_; (with_reducible apply runO_go); simp only [go_sem, *])
    | ((with_reducible apply runO_callF known27); simp only [go_sem, *]; refine (cL _ (by (repeat (first | assumption | exact Heap.sub_refl _ | refine Heap.sub_congr ?_ | refine Heap.sub_set ?_ (by assumption) | refine Heap.sub_set2 ?_ (by first | assumption | (simp only [*]; done) | (simp only [Heap.set_none', stH_none, ne_eq, *, not_false_eq_true, and_self]; done)))); done)).use ?_; (with_reducible apply runO_go); simp only [go_sem, *]))
            refine run_loop (fun nc ec Hc => ∃ (m : Nat), m ≤ L.length ∧ nc = L.length - m ∧ ec 7 = pT l ∧ ec 9 = .own bb cap (strsC t2.keys) ∧ ec 13 = dS s ∧ ec 17 = .v (.int .i64 (i : Int)) ∧ ec 41 = .list (clsC list) ∧ ec 42 = .v (.int .i64 (list.length : Int)) ∧ ec 43 = .v (.int .i64 (k : Int)) ∧ ec 81 = .own bb cap (strsC t2.keys) ∧ ec 82 = .v (.int .i64 (t2.keys.length : Int)) ∧ ec 83 = .v (.int .i64 (j : Int)) ∧ ec 104 = .v (.pointer (some ⟨pi, 0, none⟩)) ∧ ec 118 = .list (intsC L) ∧ ec 119 = .v (.int .i64 (L.length : Int)) ∧ ec 120 = .v (.int .i64 (m : Int)) ∧ Hx.set pi (.iter (strL s) (i + 1)) = Hc) (L.length)
                ⟨0, Nat.zero_le _, rfl, (by simp only [go_sem, *]), (by simp only [go_sem, *]), (by simp only [go_sem, *]), (by simp only [go_sem, *]), (by simp only [go_sem, *]), (by simp only [go_sem, *]), (by simp only [go_sem, *]), (by simp only [go_sem, *]), (by simp only [go_sem, *]), (by simp only [go_sem, *]), (by simp only [go_sem, *]), (by simp only [go_sem, *]), (by simp only [go_sem, *]), (by simp only [go_sem] <;> rfl), rfl⟩ ?_
            rintro nc ec Hc ih ⟨m, ck, rfl, cs7, cs9, cs13, cs17, cs41, cs42, cs43, cs81, cs82, cs83, cs104, cs118, cs119, cs120, rfl⟩
            have IHc : Hid _ := ih
            clear ih
            by_cases hm : m < L.length
            · have hwm := wrap_succ (k := m) (by omega)
              have hvm : L.getD m default ∈ L := by simp [List.getD, hm]
              have hvne : ¬ L.getD m default = (bt.toNat : Int) := fun e => hnin (by rw [← e]; exact hvm)
              clear cM cL hvm hnin
              repeat' (first
    | (with_reducible apply run_seq)
    | (with_reducible apply run_block)
    | (with_reducible apply run_inBlock)
    | (with_reducible apply run_skip)
    | ((with_reducible apply run_go); simp only [go_sem, *])
    | ((with_reducible apply run_cond_t); (focus (simp only [go_sem, *]; done)))
    | ((with_reducible apply run_cond_f); (focus (simp only [go_sem, *]; done))))
              refine IHc.out (L.length - (m + 1)) _ _ (by omega) ⟨m + 1, by omega, rfl, (by simp only [go_sem, *]), (by simp only [go_sem, *]), (by simp only [go_sem, *]), (by simp only [go_sem, *]), (by simp only [go_sem, *]), (by simp only [go_sem, *]), (by simp only [go_sem, *]), (by simp only [go_sem, *]), (by simp only [go_sem, *]), (by simp only [go_sem, *]), (by simp only [go_sem, *]), (by simp only [go_sem, *]), (by simp only [go_sem, *]), (by simp only [go_sem, *]), rfl⟩
            · obtain rfl : m = L.length := by omega
              clear cM cL
              repeat' (first
    | (with_reducible apply run_seq)
    | (with_reducible apply run_inBlock)
    | (with_reducible apply run_exit rfl)
    | ((with_reducible apply run_go); simp only [go_sem, *])
    | ((with_reducible apply run_cond_f); (focus (simp only [go_sem, *]; done))))
              refine IHb.out (s.length - (i + 1)) _ _ (by omega) ⟨i + 1, by omega, rfl, (by simp only [go_sem, *]), (by simp only [go_sem, *]), (by simp only [go_sem, *]), (by simp only [go_sem, *]), (by simp only [go_sem, *]), (by simp only [go_sem, *]), (by simp only [go_sem, *]), (by simp only [go_sem, *]), (by simp only [go_sem, *]), (by simp only [go_sem, *]), rfl⟩
          · obtain rfl : i = s.length := by omega
            repeat' (first
    | (with_reducible apply run_seq)
    | ((with_reducible apply run_go); simp only [go_sem, *]))
            refine runO_nextEnd (b := pi) (q := s.length) (s := strL s) (by simp only [go_sem, *]) (Heap.set_same _ _ _) (by rw [strL_size]; omega) ?_
            (with_reducible apply runO_go); simp only [go_sem, *]
            repeat' (first
    | (with_reducible apply run_seq)
    | (with_reducible apply run_inBlock)
    | (with_reducible apply run_exit rfl)
    | ((with_reducible apply run_go); simp only [go_sem, *])
    | ((with_reducible apply run_cond_f); (focus (simp only [go_sem, *]; done))))
            refine run_drop (H' := Hx) (by (repeat (first | assumption | exact Heap.sub_refl _ | refine Heap.sub_congr ?_ | refine Heap.sub_set ?_ (by assumption) | refine Heap.sub_set2 ?_ (by first | assumption | (simp only [*]; done) | (simp only [Heap.set_none', stH_none, ne_eq, *, not_false_eq_true, and_self]; done)))); done) ?_
            refine IHa.out (t2.keys.length - (j + 1)) _ _ (by omega) ⟨j + 1, by omega, rfl, (by simp only [go_sem, *]), (by simp only [go_sem, *]), (by simp only [go_sem, *]), (by simp only [go_sem, *]), (by simp only [go_sem, *]), (by simp only [go_sem, *]), (by simp only [go_sem, *]), (by simp only [go_sem, *]), rfl⟩
        · obtain rfl : j = t2.keys.length := by omega
          have HI : Hid _ := And.intro hAx0 (And.intro hOx (And.intro hSx hkl2))
          clear hAx0 hOx hSx hkl2 hT
          repeat' (first
    | (with_reducible apply run_seq)
    | (with_reducible apply run_inBlock)
    | (with_reducible apply run_exit rfl)
    | ((with_reducible apply run_go); simp only [go_sem, *])
    | ((with_reducible apply run_cond_f); (focus (simp only [go_sem, *]; done))))
          refine IHq.out (list.length - (k + 1)) _ _ (by omega) ⟨k + 1, t2, H0', by omega, rfl, HI.out, (by simp only [go_sem, *]), (by simp only [go_sem, *]), (by simp only [go_sem, *]), (by simp only [go_sem, *]), ?_⟩
          simp only [go_sem, *]
          exact HCX.out
    · intro hT
      have HT : Hid _ := hT
      clear hT IHq
      by_cases k1 : kd = 1
      · subst k1
        repeat' (first
    | (with_reducible apply run_seq)
    | (with_reducible apply run_block)
    | ((with_reducible apply run_go); simp only [go_sem, *])
    | ((with_reducible apply run_cond_t); (focus (simp only [go_sem, *]; done))))
        (with_reducible apply runO_callF known13); simp only [go_sem, *]; refine (makeF W hF2 hO pf hpf st n).mono (fun d1 K2 hh => ?_); obtain ⟨rfl, t2, hm, hF3⟩ := hh; (with_reducible apply runO_go); simp only [go_sem, *]
        have hF4 := hF3.less (Heap.sub_set (Heap.sub_refl _) hpbB)
        have qb := hF3.sub _ _ (Heap.set_same _ pb _)
        obtain ⟨H0', hc2, hA2⟩ := coll_tree hcc hF4
        have hO2 := (hO.made hm).more (by omega : (k : Int) ≤ ((k + 1 : Nat) : Int))
        have hS2 := shut_made hS hm
        have hks := keys_made hm
        clear hF2 hF3 hF4 hA hcc hO hS hm
        by_cases hE : t.mkE pf = 0
        · rw [if_pos hE] at hks
          have HR : Hid _ := And.intro hA2 (And.intro hO2 (And.intro hS2 (by rw [hks, List.length_append]; simp; exact hkl : t2.keys.length ≤ k + 1)))
          have HK : Hid _ := hks
          clear hA2 hO2 hS2 hks
          repeat' (first
    | ((with_reducible apply run_go); simp only [go_sem, *])
    | ((with_reducible apply run_cond_t); (focus (simp only [go_sem, *]; done)))
    | ((with_reducible apply runO_buildSlice); (focus (simp only [go_sem]; rfl)); (focus (simp only [go_sem]; rfl)); (focus (simp only [go_sem]; rfl)); (focus rfl); (focus rfl); (focus (simp only [go_sem, *]; done)); (focus (simp only [go_sem, *]; done)); (focus decide); (with_reducible apply runO_go); simp only [go_sem, *]))
          (refine runO_coll (t := 76) Try.underlying76 sz9 by9 zr9 rfl (by simp only [go_sem, *]; exact hc2) (by simp only [go_sem, *]; rfl) (strsC_all _) (by simp) (by (try simp only [List.length_range, List.length_map, List.length_take, List.length_cons, List.length_nil, List.length_append, go_sem]); omega) (by (try simp only [maxLen, List.length_range, List.length_map, List.length_take, List.length_cons, List.length_nil, List.length_append, go_sem]); omega) (fun d1 H1 hc1 => ?_); (with_reducible apply runO_go); simp only [go_sem, *])
          repeat' (first
    | (with_reducible refine HT.out _ _ ?_)
    | (with_reducible apply run_inBlock))
          exact ⟨t2, H0', HR.out, (by simp only [go_sem, *]), (by simp only [go_sem, *]), (by simp only [go_sem, *]), (by simp only [go_sem, *]), by simp only [go_sem]; rw [HK.out, strsC_snoc]; exact hc1⟩
        · rw [if_neg hE] at hks
          have HR : Hid _ := And.intro hA2 (And.intro hO2 (And.intro hS2 (by rw [hks]; omega : t2.keys.length ≤ k + 1)))
          rw [← hks] at hc2
          clear hA2 hO2 hS2 hks
          repeat' (first
    | (with_reducible refine HT.out _ _ ?_)
    | (with_reducible apply run_inBlock)
    | (with_reducible apply run_skip)
    | ((with_reducible apply run_cond_f); (focus (simp only [go_sem, *]; done))))
          exact ⟨t2, H0', HR.out, (by simp only [go_sem, *]), (by simp only [go_sem, *]), (by simp only [go_sem, *]), (by simp only [go_sem, *]), by simp only [go_sem, *]⟩
      by_cases k2 : kd = 2
      · subst k2
        repeat' (first
    | (with_reducible apply run_seq)
    | (with_reducible apply run_block)
    | ((with_reducible apply run_go); simp only [go_sem, *])
    | ((with_reducible apply run_cond_t); (focus (simp only [go_sem, *]; done)))
    | ((with_reducible apply run_cond_f); (focus (simp only [go_sem, *]; done))))
        (with_reducible apply runO_callF known15); simp only [go_sem, *]; refine (markF W hF2 hO pf hpf st).mono (fun d1 K2 hh => ?_); obtain ⟨rfl, hF3⟩ := hh; (with_reducible apply runO_go); simp only [go_sem, *]
        have hF4 := hF3.less (Heap.sub_set (Heap.sub_refl _) hpbB)
        obtain ⟨H0', hc2, hA2⟩ := coll_tree hcc hF4
        have hks := keys_mark t pf st
        rw [← hks] at hc2
        have HR : Hid _ := And.intro hA2 (And.intro ((hO.mark pf st).more (by omega : (k : Int) ≤ ((k + 1 : Nat) : Int))) (And.intro (shut_mark hS pf st) (by rw [hks]; omega : (t.mark pf st).keys.length ≤ k + 1)))
        clear hF2 hF3 hF4 hA hcc hO hS hA2 hks
        repeat' (first
    | (with_reducible refine HT.out _ _ ?_)
    | (with_reducible apply run_inBlock))
        exact ⟨t.mark pf st, H0', HR.out, (by simp only [go_sem, *]), (by simp only [go_sem, *]), (by simp only [go_sem, *]), (by simp only [go_sem, *]), by simp only [go_sem, *]⟩
      by_cases k3 : kd = 3
      · subst k3
        repeat' (first
    | (with_reducible apply run_seq)
    | (with_reducible apply run_block)
    | ((with_reducible apply run_go); simp only [go_sem, *])
    | ((with_reducible apply run_cond_t); (focus (simp only [go_sem, *]; done)))
    | ((with_reducible apply run_cond_f); (focus (simp only [go_sem, *]; done))))
        (with_reducible apply runO_callF known17); simp only [go_sem, *]; refine (claimF W hF2 hO (by omega : (k : Int) ≤ 1000000) pf hpf n).mono (fun d1 K2 hh => ?_); obtain ⟨rfl, hF3⟩ := hh; (with_reducible apply runO_go); simp only [go_sem, *]
        have hF4 := hF3.less (Heap.sub_set (Heap.sub_refl _) hpbB)
        obtain ⟨H0', hc2, hA2⟩ := coll_tree hcc hF4
        have hks := keys_clm t pf n
        rw [← hks] at hc2
        have HR : Hid _ := And.intro hA2 (And.intro ((hO.clm pf n).more (by omega : (k : Int) + 1 ≤ ((k + 1 : Nat) : Int))) (And.intro (shut_clm hS pf n) (by rw [hks]; omega : (t.clm pf n).keys.length ≤ k + 1)))
        clear hF2 hF3 hF4 hA hcc hO hS hA2 hks
        repeat' (first
    | (with_reducible refine HT.out _ _ ?_)
    | (with_reducible apply run_inBlock))
        exact ⟨t.clm pf n, H0', HR.out, (by simp only [go_sem, *]), (by simp only [go_sem, *]), (by simp only [go_sem, *]), (by simp only [go_sem, *]), by simp only [go_sem, *]⟩
      · obtain ⟨H0', hc2, hA2⟩ := coll_tree hcc (hF2.less (Heap.sub_set (Heap.sub_refl _) hpbB))
        have HR : Hid _ := And.intro hA2 (And.intro (hO.more (by omega : (k : Int) ≤ ((k + 1 : Nat) : Int))) (And.intro hS (by omega : t.keys.length ≤ k + 1)))
        clear hF2 hA hcc hO hS hA2
        repeat' (first
    | (with_reducible refine HT.out _ _ ?_)
    | (with_reducible apply run_seq)
    | (with_reducible apply run_block)
    | (with_reducible apply run_inBlock)
    | (with_reducible apply run_skip)
    | ((with_reducible apply run_go); simp only [go_sem, *])
    | ((with_reducible apply run_cond_f); (focus (simp only [go_sem, *]; done))))
        exact ⟨t, H0', HR.out, (by simp only [go_sem, *]), (by simp only [go_sem, *]), (by simp only [go_sem, *]), (by simp only [go_sem, *]), by simp only [go_sem, *]⟩
  · obtain rfl : k = list.length := by omega
    have c1 := len_call W Hq l t hA.ht
    have hkk : t.keys.length = t.ns.length := by simp [Tr.keys]
    rcases coll_shape cq with ⟨hd, hxs⟩ | ⟨bb, cap, hd⟩
    · subst hd
      have h00 : t.ns.length = 0 := by rw [← hkk, ← strsC_length, hxs]; rfl
      rw [h00] at c1
      clear cq hcc
      repeat' (first
    | (with_reducible apply run_seq)
    | (with_reducible apply run_exit rfl)
    | ((with_reducible apply run_go); simp only [go_sem, *])
    | ((with_reducible apply run_cond_f); (focus (simp only [go_sem, *]; done)))
    | ((with_reducible apply runO_callF known29); simp only [go_sem, *]; refine (c1).use ?_; (with_reducible apply runO_go); simp only [go_sem, *])
    | ((with_reducible apply run_ret Try.func6 res6 (H' := H)); (focus (simp only [go_sem, *]; rfl)); (focus trivial); (focus (repeat (first | assumption | exact Heap.sub_refl _ | refine Heap.sub_congr ?_ | refine Heap.sub_set ?_ (by assumption) | refine Heap.sub_set2 ?_ (by first | assumption | (simp only [*]; done) | (simp only [Heap.set_none', stH_none, ne_eq, *, not_false_eq_true, and_self]; done)))))))
      rfl
    · subst hd
      clear cq hcc
      repeat' (first
    | (with_reducible apply run_seq)
    | (with_reducible apply run_exit rfl)
    | ((with_reducible apply run_go); simp only [go_sem, *])
    | ((with_reducible apply run_cond_f); (focus (simp only [go_sem, *]; done)))
    | ((with_reducible apply runO_callF known29); simp only [go_sem, *]; refine (c1).use ?_; (with_reducible apply runO_go); simp only [go_sem, *])
    | ((with_reducible apply run_ret Try.func6 res6 (H' := H)); (focus (simp only [go_sem, *]; rfl)); (focus trivial); (focus (repeat (first | assumption | exact Heap.sub_refl _ | refine Heap.sub_congr ?_ | refine Heap.sub_set ?_ (by assumption) | refine Heap.sub_set2 ?_ (by first | assumption | (simp only [*]; done) | (simp only [Heap.set_none', stH_none, ne_eq, *, not_false_eq_true, and_self]; done)))))))
      rfl
end Go.Proofs.Ytcfeklnmampndaa
