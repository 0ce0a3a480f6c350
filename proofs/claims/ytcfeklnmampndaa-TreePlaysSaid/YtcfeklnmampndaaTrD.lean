/-
  Contracts: nodes made.
-/
import Derived.Test.YtcfeklnmampndaaTrC
set_option linter.unusedSimpArgs false
set_option linter.unusedVariables false
namespace Go.Proofs.Ytcfeklnmampndaa
open Go Go.Sn Go.RowKit
-- NONE stH_none

/-- Was the prefix gone into from the one ahead of it? -/
def Tr.up (t : Tr) (k : Ky) : Bool := decide (k = []) || match t.fnd (k.take (k.length - 1)) with | none => false | some x => hasE x.n.dn ((k.getD (k.length - 1) 0).toNat : Int)
/-- A node's making: an error. -/
def Tr.mkE (t : Tr) (k : Ky) : Int := if (t.at k).1 ≠ 0 then (t.at k).1 else if (t.fnd k).isSome then 7 else if t.up k then 0 else 6
def Tr.put (t : Tr) (k : Ky) (b : Nat) (n : Nd) : Tr := { t with ns := t.ns ++ [⟨k, b, n⟩] }
theorem AtT.put {H : Heap} {l : TLo} {t : Tr} (h : AtT H l t) {k : Ky} {b : Nat} (n : Nd) (hk : okS k) (hx : t.fnd k = none) (hb : H b = none) :
    AtT ((H.set b (.cells (ndC n) 98)).set l.m (.map (mapT (t.put k b n).ns))) l (t.put k b n) := by
  have n1 : l.b ≠ b := fun e => by have := h.hb; rw [e, hb] at this; cases this
  have n2 : l.m ≠ b := fun e => by have := h.hm; rw [e, hb] at this; cases this
  have n3 : ∀ x ∈ t.ns, x.b ≠ b := fun x hx e => by have := h.hn x hx; rw [e, hb] at this; cases this
  have hnk : ∀ x ∈ t.ns, x.k ≠ k := fun x hm e => by
    have := List.find?_eq_none.1 hx x hm
    simp [e] at this
  refine ⟨?_, Heap.set_same _ _ _, fun y hy => ?_, ?_, ?_, fun y hy => ?_⟩
  · rw [Heap.set_other _ _ h.bm, Heap.set_other _ _ n1]; exact h.hb
  · rcases List.mem_append.1 hy with hy | hy
    · rw [Heap.set_other _ _ (h.node_ne hy).2.1.symm, Heap.set_other _ _ (n3 y hy)]; exact h.hn y hy
    · rw [List.mem_singleton.1 hy, Heap.set_other _ _ n2.symm]; exact Heap.set_same _ _ _
  · show ((t.ns ++ [_]).map _).Nodup
    rw [List.map_append, List.nodup_append]
    refine ⟨h.nd, by simp, fun a ha c hc => ?_⟩
    obtain ⟨x, hx, rfl⟩ := List.mem_map.1 ha
    simp at hc
    rw [hc]
    exact n3 x hx
  · show ((t.ns ++ [_]).map _).Nodup
    rw [List.map_append, List.nodup_append]
    refine ⟨h.kd, by simp, fun a ha c hc => ?_⟩
    obtain ⟨x, hx, rfl⟩ := List.mem_map.1 ha
    simp at hc
    rw [hc]
    exact hnk x hx
  · rcases List.mem_append.1 hy with hy | hy
    · exact h.ok y hy
    · rw [List.mem_singleton.1 hy]; exact hk
theorem fnd_put {ns : List Nt} {k : Ky} (hx : fndN ns k = none) (b : Nat) (n : Nd) (k' : Ky) : fndN (ns ++ [⟨k, b, n⟩]) k' = if k' = k then some ⟨k, b, n⟩ else fndN ns k' := by
  unfold fndN at *
  rw [List.find?_append]
  by_cases e : k' = k
  · subst e
    rw [hx, if_pos rfl]
    simp
  · rw [if_neg e]
    have e' : ¬ k = k' := fun h => e h.symm
    cases ns.find? (fun x => decide (x.k = k')) with
    | none => simp [e']
    | some y => rfl
theorem mapT_put (t : Tr) (k : Ky) (b : Nat) (n : Nd) (hx : t.fnd k = none) : entC kcS vcB (putM (mpT t.ns) k (some b)) = mapT (t.put k b n).ns := by
  have hg : getM (mpT t.ns) k = none := by
    have := getM_mpT t.ns k
    unfold Tr.fnd at hx
    rw [hx] at this
    exact this
  rw [putM_new hg]
  show _ = entC kcS vcB (mpT (t.ns ++ [⟨k, b, n⟩]))
  unfold mpT
  rw [List.map_append]
  rfl
theorem strL_init (k : Ky) : (strL k).extract 0 (k.length - 1) = strL (k.take (k.length - 1)) := by
  apply ByteArray.ext
  simp [strL, ByteArray.data_extract, List.dropLast_eq_take]

set_option maxHeartbeats 4000000 in
theorem make_no (W : World) (H : Heap) (l : TLo) (t : Tr) (h : AtT H l t) (ho : OkT t) (k : Ky) (hk : okS k) (s : BitVec 8) (o : Int) (he : t.mkE k ≠ 0) :
    CallA Try.prog W 13 [pT l, dS k, .v (.int .u8 (s.toNat : Int)), .v (.int .i64 o)] H fun r H' => r = .v (.int .i64 (t.mkE k)) ∧ H' = H := by
  refine call_in Try.func13 rfl Try.ntmps13 (by simp) ?_
  unfold Tr.mkE at he ⊢
  repeat' (first
    | (with_reducible apply run_seq)
    | ((with_reducible apply run_go); simp only [go_sem, *]))
  (with_reducible apply runO_callF known24); simp only [go_sem, *]
  refine (at_call W H l t h ho k hk).mono (fun d1 H1 hh => ?_)
  rcases hh with ⟨h0, rfl, hH⟩ | ⟨h0, lo, hlb, hlc, hne, hcap, rfl, rfl⟩
  · obtain rfl := hH.symm
    rw [if_pos h0]
    clear he
    generalize (t.at k).1 = er at *
    (with_reducible apply runO_go); simp only [go_sem, *]
    repeat' (first
    | (with_reducible apply run_seq)
    | (with_reducible apply run_block)
    | ((with_reducible apply run_go); simp only [go_sem, *])
    | ((with_reducible apply run_cond_t); (focus (simp only [go_sem, *]; done)))
    | ((with_reducible apply run_ret Try.func13 res13 (H' := H)); (focus (simp only [go_sem, *]; rfl)); (focus trivial); (focus (repeat (first | assumption | exact Heap.sub_refl _ | refine Heap.sub_congr ?_ | refine Heap.sub_set ?_ (by assumption) | refine Heap.sub_set2 ?_ (by first | assumption | (simp only [*]; done) | (simp only [Heap.set_none', stH_none, ne_eq, *, not_false_eq_true, and_self]; done)))))))
    exact ⟨rfl, rfl⟩
  · rw [if_neg (fun e => e h0)] at he ⊢
    have hsub : H.sub (stP H lo (t.at k).2.2) := stH_subH hlb hlc
    generalize stP H lo (t.at k).2.2 = K at *
    generalize (t.at k).2.1 = evs at *
    clear h0 hlb hlc
    (with_reducible apply runO_go); simp only [go_sem, *]
    refine run_drop hsub ?_
    cases hx : t.fnd k with
    | some x =>
      have c1 := find_some W h hk hx
      clear he
      repeat' (first
    | (with_reducible apply run_seq)
    | (with_reducible apply run_block)
    | ((with_reducible apply run_go); simp only [go_sem, *])
    | ((with_reducible apply run_cond_t); (focus (simp only [go_sem, *]; done)))
    | ((with_reducible apply run_cond_f); (focus (simp only [go_sem, *]; done)))
    | ((with_reducible apply runO_callF known39); simp only [go_sem, *]; refine (c1).use ?_; (with_reducible apply runO_go); simp only [go_sem, *])
    | ((with_reducible apply run_ret Try.func13 res13 (H' := H)); (focus (simp only [go_sem, *]; rfl)); (focus trivial); (focus (repeat (first | assumption | exact Heap.sub_refl _ | refine Heap.sub_congr ?_ | refine Heap.sub_set ?_ (by assumption) | refine Heap.sub_set2 ?_ (by first | assumption | (simp only [*]; done) | (simp only [Heap.set_none', stH_none, ne_eq, *, not_false_eq_true, and_self]; done)))))))
      exact ⟨rfl, rfl⟩
    | none =>
      have c1 := find_none W h hk hx
      rw [hx] at he
      cases hu : t.up k with
      | true => rw [hu] at he; exact absurd rfl he
      | false =>
        clear he
        unfold Tr.up at hu
        rw [Bool.or_eq_false_iff, decide_eq_false_iff_not] at hu
        obtain ⟨hne0, hu⟩ := hu
        have hpos : 0 < (k.length : Int) := by have := List.length_pos_iff.2 hne0; omega
        have hw : IntKind.i64.wrap ((k.length : Int) - 1) = ((k.length - 1 : Nat) : Int) := by unfold okS at hk; rw [wrapP (by omega) (by omega)]; omega
        have hlt : ((k.length - 1 : Nat) : Int) < (k.length : Int) := by omega
        have hle : ((k.length - 1 : Nat) : Int) ≤ (k.length : Int) := by omega
        have hin := strL_init k
        have hk2 : okS (k.take (k.length - 1)) := by unfold okS at hk ⊢; rw [List.length_take]; omega
        generalize hb0 : k.getD (k.length - 1) 0 = b at *
        have hlt256 := b.toNat_lt
        have w0 : IntKind.i64.wrap (b.toNat : Int) = (b.toNat : Int) := wrap_small (by omega) (by omega)
        cases hy : t.fnd (k.take (k.length - 1)) with
        | none =>
          have c2 := find_none W h hk2 hy
          clear hu hlt256
          repeat' (first
    | (with_reducible apply run_seq)
    | (with_reducible apply run_block)
    | (with_reducible apply run_inBlock)
    | (with_reducible apply run_skip)
    | ((with_reducible apply run_go); simp only [go_sem, *])
    | ((with_reducible apply run_drawGo Cl.zero Cl.zero_plain mixed); (focus kernel_rfl); simp only [go_sem, *])
    | ((with_reducible apply run_cond_t); (focus (simp only [go_sem, *]; done)))
    | ((with_reducible apply run_cond_f); (focus (simp only [go_sem, *]; done)))
    | ((with_reducible apply runD_skipF); (focus rfl); (focus (simp only [go_sem, *]; rfl)); (focus rfl); (with_reducible first | apply runD_go Cl.zero_plain | apply runD_goC); simp only [go_sem, *])
    | ((with_reducible apply runO_callF known39); simp only [go_sem, *]; refine (c1).use ?_; (with_reducible apply runO_go); simp only [go_sem, *])
    | ((with_reducible apply runO_callF known39); simp only [go_sem, *]; refine (c2).use ?_; (with_reducible apply runO_go); simp only [go_sem, *])
    | ((with_reducible apply run_ret Try.func13 res13 (H' := H)); (focus (simp only [go_sem, *]; rfl)); (focus trivial); (focus (repeat (first | assumption | exact Heap.sub_refl _ | refine Heap.sub_congr ?_ | refine Heap.sub_set ?_ (by assumption) | refine Heap.sub_set2 ?_ (by first | assumption | (simp only [*]; done) | (simp only [Heap.set_none', stH_none, ne_eq, *, not_false_eq_true, and_self]; done)))))))
          exact ⟨rfl, rfl⟩
        | some y =>
          have c2 := find_some W h hk2 hy
          have hn := h.node hy
          rw [hy] at hu
          replace hu : hasE y.n.dn (b.toNat : Int) = false := hu
          have c3 := fun H => setHas_call W H y.n.dn (b.toNat : Int)
          rw [hu] at c3
          clear hu hlt256
          repeat' (first
    | (with_reducible apply run_seq)
    | (with_reducible apply run_block)
    | (with_reducible apply run_inBlock)
    | (with_reducible apply run_skip)
    | ((with_reducible apply run_go); simp only [go_sem, *])
    | ((with_reducible apply run_drawGo Cl.zero Cl.zero_plain mixed); (focus kernel_rfl); simp only [go_sem, *])
    | ((with_reducible apply run_cond_t); (focus (simp only [go_sem, *]; done)))
    | ((with_reducible apply run_cond_f); (focus (simp only [go_sem, *]; done)))
    | ((with_reducible apply runO_callF known39); simp only [go_sem, *]; refine (c1).use ?_; (with_reducible apply runO_go); simp only [go_sem, *])
    | ((with_reducible apply runO_callF known39); simp only [go_sem, *]; refine (c2).use ?_; (with_reducible apply runO_go); simp only [go_sem, *])
    | ((with_reducible apply runD_callFG known34); (focus exact ⟨rfl, rfl⟩); (focus (simp only [go_sem, *]; rfl)); (focus (intro _; simp only [go_sem, *]; exact c3 _)); (with_reducible first | apply runD_go Cl.zero_plain | apply runD_goC); simp only [go_sem, *])
    | ((with_reducible apply run_ret Try.func13 res13 (H' := H)); (focus (simp only [go_sem, *]; rfl)); (focus trivial); (focus (repeat (first | assumption | exact Heap.sub_refl _ | refine Heap.sub_congr ?_ | refine Heap.sub_set ?_ (by assumption) | refine Heap.sub_set2 ?_ (by first | assumption | (simp only [*]; done) | (simp only [Heap.set_none', stH_none, ne_eq, *, not_false_eq_true, and_self]; done)))))))
          exact ⟨rfl, rfl⟩

theorem mkE_ok {t : Tr} {k : Ky} (he : t.mkE k = 0) : (t.at k).1 = 0 ∧ t.fnd k = none ∧ t.up k = true := by
  unfold Tr.mkE at he
  by_cases h0 : (t.at k).1 = 0
  · rw [if_neg (fun e => e h0)] at he
    cases hx : t.fnd k with
    | some x => rw [hx] at he; simp at he
    | none =>
      rw [hx] at he
      refine ⟨h0, rfl, ?_⟩
      cases hu : t.up k with
      | true => rfl
      | false => rw [hu] at he; simp at he
  · rw [if_pos h0] at he; exact absurd he h0

set_option maxHeartbeats 4000000 in
theorem make_ok (W : World) (H : Heap) (l : TLo) (t : Tr) (h : AtT H l t) (ho : OkT t) (k : Ky) (hk : okS k) (s : BitVec 8) (o : Int) (he : t.mkE k = 0) :
    CallA Try.prog W 13 [pT l, dS k, .v (.int .u8 (s.toNat : Int)), .v (.int .i64 o)] H fun r H' => r = .v (.int .i64 0) ∧ ∃ b, H b = none ∧
      H' = (H.set b (.cells (ndC ⟨o, s, 0#8, 0#8⟩) 98)).set l.m (.map (mapT (t.put k b ⟨o, s, 0#8, 0#8⟩).ns)) := by
  refine call_in Try.func13 rfl Try.ntmps13 (by simp) ?_
  obtain ⟨h0, hx, hu⟩ := mkE_ok he
  clear he
  have c1 := find_none W h hk hx
  have hb := h.cell
  have hmm := h.hm
  have hbm := h.bm
  have hput := fun b => mapT_put t k b ⟨o, s, 0#8, 0#8⟩ hx
  have HPUT : Hid _ := hput
  clear hput
  repeat' (first
    | (with_reducible apply run_seq)
    | ((with_reducible apply run_go); simp only [go_sem, *]))
  (with_reducible apply runO_callF known24); simp only [go_sem, *]
  refine (at_call W H l t h ho k hk).mono (fun d1 H1 hh => ?_)
  rcases hh with ⟨h1, _⟩ | ⟨_, lo, hlb, hlc, hne, hcap, rfl, rfl⟩
  · exact absurd h0 h1
  have hsub : H.sub (stP H lo (t.at k).2.2) := stH_subH hlb hlc
  generalize stP H lo (t.at k).2.2 = K at *
  generalize (t.at k).2.1 = evs at *
  clear h0 hlb hlc
  (with_reducible apply runO_go); simp only [go_sem, *]
  refine run_drop hsub ?_
  unfold Tr.up at hu
  rw [Bool.or_eq_true, decide_eq_true_eq] at hu
  by_cases hne0 : k = []
  · have hpos : ¬ 0 < (k.length : Int) := by rw [hne0]; simp
    clear hu hne0
    repeat' (first
    | (with_reducible apply run_seq)
    | (with_reducible apply run_block)
    | (with_reducible apply run_inBlock)
    | (with_reducible apply run_skip)
    | ((with_reducible apply run_go); simp only [go_sem, *])
    | ((with_reducible apply run_cond_f); (focus (simp only [go_sem, *]; done)))
    | ((with_reducible apply runO_box); (focus (simp only [go_sem, *]; done)); intro pb hpb; have hfb := Heap.ne_of_none hpb; (try simp only [Heap.set_none', stH_none] at hpb); (with_reducible apply runO_go); simp only [go_sem, *])
    | ((with_reducible apply runO_callF known39); simp only [go_sem, *]; refine (c1).use ?_; (with_reducible apply runO_go); simp only [go_sem, *]))
    have hmb : l.m ≠ pb := fun e => by rw [e, hpb] at hmm; cases hmm
    refine runO_mapUpdateM mtNode (b := l.m) (l := mpT t.ns) (k := k) (v := some pb) (by simp only [go_sem, *]) (by rw [Heap.set_other _ _ hmb]; exact hmm) h.mok (by simp only [go_sem, *]; rfl) hk (by first | (simp only [go_sem, *]; done) | (simp only [go_sem, *]; rfl)) ?_
    rw [HPUT.out pb]
    (with_reducible apply runO_go); simp only [go_sem, *]
    repeat' (first
    | (with_reducible apply run_seq)
    | ((with_reducible apply run_go); simp only [go_sem, *])
    | ((with_reducible apply run_ret Try.func13 res13 (H' := (H.set pb (.cells (ndC ⟨o, s, 0#8, 0#8⟩) 98)).set l.m (.map (mapT (t.put k pb ⟨o, s, 0#8, 0#8⟩).ns)))); (focus (simp only [go_sem, *]; rfl)); (focus trivial); (focus (repeat (first | assumption | exact Heap.sub_refl _ | refine Heap.sub_congr ?_ | refine Heap.sub_set ?_ (by assumption) | refine Heap.sub_set2 ?_ (by first | assumption | (simp only [*]; done) | (simp only [Heap.set_none', stH_none, ne_eq, *, not_false_eq_true, and_self]; done)))))))
    exact ⟨rfl, pb, hpb, rfl⟩
  · have hpos : 0 < (k.length : Int) := by have := List.length_pos_iff.2 hne0; omega
    have hw : IntKind.i64.wrap ((k.length : Int) - 1) = ((k.length - 1 : Nat) : Int) := by unfold okS at hk; rw [wrapP (by omega) (by omega)]; omega
    have hlt : ((k.length - 1 : Nat) : Int) < (k.length : Int) := by omega
    have hle : ((k.length - 1 : Nat) : Int) ≤ (k.length : Int) := by omega
    have hin := strL_init k
    have hk2 : okS (k.take (k.length - 1)) := by unfold okS at hk ⊢; rw [List.length_take]; omega
    generalize hb0 : k.getD (k.length - 1) 0 = b at *
    have hlt256 := b.toNat_lt
    have w0 : IntKind.i64.wrap (b.toNat : Int) = (b.toNat : Int) := wrap_small (by omega) (by omega)
    clear hlt256
    rcases hu with hu | hu
    · exact absurd hu hne0
    cases hy : t.fnd (k.take (k.length - 1)) with
    | none => rw [hy] at hu; cases hu
    | some y =>
      have c2 := find_some W h hk2 hy
      have hn := h.node hy
      rw [hy] at hu
      replace hu : hasE y.n.dn (b.toNat : Int) = true := hu
      have c3 := fun H => setHas_call W H y.n.dn (b.toNat : Int)
      rw [hu] at c3
      clear hu
      repeat' (first
    | (with_reducible apply run_seq)
    | (with_reducible apply run_block)
    | (with_reducible apply run_inBlock)
    | (with_reducible apply run_skip)
    | ((with_reducible apply run_go); simp only [go_sem, *])
    | ((with_reducible apply run_drawGo Cl.zero Cl.zero_plain mixed); (focus kernel_rfl); simp only [go_sem, *])
    | ((with_reducible apply run_cond_t); (focus (simp only [go_sem, *]; done)))
    | ((with_reducible apply run_cond_f); (focus (simp only [go_sem, *]; done)))
    | ((with_reducible apply runO_box); (focus (simp only [go_sem, *]; done)); intro pb hpb; have hfb := Heap.ne_of_none hpb; (try simp only [Heap.set_none', stH_none] at hpb); (with_reducible apply runO_go); simp only [go_sem, *])
    | ((with_reducible apply runO_callF known39); simp only [go_sem, *]; refine (c1).use ?_; (with_reducible apply runO_go); simp only [go_sem, *])
    | ((with_reducible apply runO_callF known39); simp only [go_sem, *]; refine (c2).use ?_; (with_reducible apply runO_go); simp only [go_sem, *])
    | ((with_reducible apply runD_callFG known34); (focus exact ⟨rfl, rfl⟩); (focus (simp only [go_sem, *]; rfl)); (focus (intro _; simp only [go_sem, *]; exact c3 _)); (with_reducible first | apply runD_go Cl.zero_plain | apply runD_goC); simp only [go_sem, *]))
      have hmb : l.m ≠ pb := fun e => by rw [e, hpb] at hmm; cases hmm
      refine runO_mapUpdateM mtNode (b := l.m) (l := mpT t.ns) (k := k) (v := some pb) (by simp only [go_sem, *]) (by rw [Heap.set_other _ _ hmb]; exact hmm) h.mok (by simp only [go_sem, *]; rfl) hk (by first | (simp only [go_sem, *]; done) | (simp only [go_sem, *]; rfl)) ?_
      rw [HPUT.out pb]
      (with_reducible apply runO_go); simp only [go_sem, *]
      repeat' (first
    | (with_reducible apply run_seq)
    | ((with_reducible apply run_go); simp only [go_sem, *])
    | ((with_reducible apply run_ret Try.func13 res13 (H' := (H.set pb (.cells (ndC ⟨o, s, 0#8, 0#8⟩) 98)).set l.m (.map (mapT (t.put k pb ⟨o, s, 0#8, 0#8⟩).ns)))); (focus (simp only [go_sem, *]; rfl)); (focus trivial); (focus (repeat (first | assumption | exact Heap.sub_refl _ | refine Heap.sub_congr ?_ | refine Heap.sub_set ?_ (by assumption) | refine Heap.sub_set2 ?_ (by first | assumption | (simp only [*]; done) | (simp only [Heap.set_none', stH_none, ne_eq, *, not_false_eq_true, and_self]; done)))))))
      exact ⟨rfl, pb, hpb, rfl⟩
end Go.Proofs.Ytcfeklnmampndaa
