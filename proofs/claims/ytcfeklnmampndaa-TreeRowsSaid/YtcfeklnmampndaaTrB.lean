/-
  Contracts: a prefix's state.
-/
import Derived.Test.YtcfeklnmampndaaTrA
set_option linter.unusedSimpArgs false
set_option linter.unusedVariables false
namespace Go.Proofs.Ytcfeklnmampndaa
open Go Go.Sn Go.RowKit
-- NONE stH_none

/-- A prefix's threads. -/
def rowK (k : Ky) : List Int := k.map fun b => (b.toNat : Int)
theorem rowK_len (k : Ky) : (rowK k).length = k.length := by simp [rowK]
theorem rowK_take {k : Ky} {j : Nat} (h : j < k.length) : rowK (k.take (j + 1)) = rowK (k.take j) ++ [((k.getD j 0).toNat : Int)] := by
  have : k.take (j + 1) = k.take j ++ [k.getD j 0] := take_succ_getD k j h
  unfold rowK
  rw [this, List.map_append]
  rfl
/-- The first error, the events, the state. -/
def Tr.at (t : Tr) (k : Ky) : Int × List Ev × St := rpl (newS t.p t.fu) (rowK k)
structure OkT (t : Tr) : Prop where
  ok : okN t.p t.fu = true
  few : ∀ c ∈ t.p.th, c.length ≤ 1000000
def AtQ (t : Tr) (k : Ky) (H : Heap) (d : D) (H' : Heap) : Prop :=
  ((t.at k).1 ≠ 0 ∧ d = .tup [.v (.pointer none), .list [], .v (.int .i64 (t.at k).1)] ∧ H' = H) ∨
  ((t.at k).1 = 0 ∧ ∃ l : Lo, H l.b = none ∧ H l.c = none ∧ l.b ≠ l.c ∧ t.p.th.length ≤ l.cap ∧
    d = .tup [.v (.pointer (some ⟨l.b, 0, none⟩)), .list (evsC (t.at k).2.1), .v (.int .i64 0)] ∧ H' = stP H l (t.at k).2.2)

set_option maxHeartbeats 8000000 in
theorem at_call (W : World) (H : Heap) (l : TLo) (t : Tr) (h : AtT H l t) (ho : OkT t) (k : Ky) (hk : okS k) :
    CallA Try.prog W 24 [pT l, dS k] H (AtQ t k H) := by
  refine call_in Try.func24 rfl Try.ntmps24 (by simp) ?_
  have hb := h.cell
  unfold okS at hk
  have c1 := fun H => replay_call W H t.p t.fu (rowK k) ho.few (by rw [rowK_len]; exact hk)
  repeat' (first
    | (with_reducible apply run_seq)
    | (with_reducible apply run_skip)
    | ((with_reducible apply run_go); simp only [go_sem, *])
    | ((with_reducible apply run_cond_f); (focus (simp only [go_sem, *]; done))))
  refine runO_bytes (s := strL k) Try.underlying9 Try.underlying106 Try.underlying5 ?_ ?_
  · simp only [go_sem]
  (with_reducible apply runO_go); simp only [go_sem]
  repeat' (first
    | (with_reducible apply run_block))
  refine run_loop (fun na ea Ha => ∃ (j : Nat), j ≤ k.length ∧ na = k.length - j ∧ ea 0 = pT l ∧ ea 13 = .list (bytesC k) ∧ ea 14 = .v (.int .i64 (k.length : Int)) ∧ ea 15 = .v (.int .i64 (j : Int)) ∧ Coll (H) (3) (1) (intsC (rowK (k.take j))) (ea 7) Ha) (k.length)
      ⟨0, Nat.zero_le _, rfl, (by simp only [go_sem, *]), (by simp only [go_sem, *]), (by simp only [go_sem, *]), (by simp only [go_sem] <;> rfl), (by simp only [go_sem]; exact .none rfl)⟩ ?_
  rintro na ea Ha ih ⟨j, ak, rfl, as0, as13, as14, as15, ca⟩
  generalize hac : ea 7 = da at ca
  have IHa : Hid _ := ih
  clear ih
  have hsub := ca.sub
  have hfl := ca.flat
  have hba := hsub _ _ hb
  by_cases hlt : j < k.length
  · have hw := wrap_succ (k := j) (by omega)
    have hrl := rowK_len (k.take j)
    rw [List.length_take] at hrl
    have hrt := rowK_take hlt
    generalize hb0 : k.getD j 0 = b at *
    have hlt256 := b.toNat_lt
    have w0 : IntKind.i64.wrap (b.toNat : Int) = (b.toNat : Int) := wrap_small (by omega) (by omega)
    have HRT : Hid _ := hrt
    clear hrt hlt256 c1
    repeat' (first
    | (with_reducible apply run_seq)
    | (with_reducible apply run_block)
    | (with_reducible apply run_skip)
    | ((with_reducible apply run_go); simp only [go_sem, *])
    | ((with_reducible apply run_cond_t); (focus (simp only [go_sem, *]; done)))
    | ((with_reducible apply runO_buildSlice); (focus (simp only [go_sem]; rfl)); (focus (simp only [go_sem]; rfl)); (focus (simp only [go_sem]; rfl)); (focus rfl); (focus rfl); (focus (simp only [go_sem, *]; done)); (focus (simp only [go_sem, *]; done)); (focus decide); (with_reducible apply runO_go); simp only [go_sem, *]))
    (refine runO_coll (t := 41) Try.underlying41 sz3 by3 zr3 rfl (by simp only [go_sem, *]; exact ca) (by simp only [go_sem, *]; rfl) (intsC_all _) (by simp) (by (try simp only [List.length_range, List.length_map, List.length_take, List.length_cons, List.length_nil, List.length_append, go_sem]); omega) (by (try simp only [maxLen, List.length_range, List.length_map, List.length_take, List.length_cons, List.length_nil, List.length_append, go_sem]); omega) (fun d1 H1 hc1 => ?_); (with_reducible apply runO_go); simp only [go_sem, *])
    repeat' (first
    | (with_reducible apply run_inBlock)
    | ((with_reducible apply run_go); simp only [go_sem, *]))
    refine IHa.out (k.length - (j + 1)) _ _ (by omega) ⟨j + 1, by omega, rfl, (by simp only [go_sem, *]), (by simp only [go_sem, *]), (by simp only [go_sem, *]), (by simp only [go_sem, *]), ?_⟩
    simp only [go_sem]
    rw [HRT.out, intsC_snoc]
    exact hc1
  · obtain rfl : j = k.length := by omega
    have c2 := c1 Ha
    rw [List.take_length] at ca hfl
    repeat' (first
    | ((with_reducible apply run_drawGoC (Cl.alone 47) mixed); (focus kernel_rfl); simp only [go_sem, *])
    | (with_reducible apply run_seq)
    | (with_reducible apply run_exit rfl)
    | ((with_reducible apply run_go); simp only [go_sem, *])
    | ((with_reducible apply run_cond_f); (focus (simp only [go_sem, *]; done))))
    refine runD_callX known47 rfl (fun _ _ _ => Cl.alone_fr _ _ _) (by simp only [go_sem, *]; exact c2) (fun d1 H1 hh => ?_)
    rcases hh with ⟨hno, _⟩ | ⟨_, he, rfl, rfl⟩ | ⟨_, he, lo, hlb, hlc, hne, hcap, rfl, rfl⟩
    · rw [ho.ok] at hno; cases hno
    · (with_reducible apply runD_goC); simp only [go_sem, *]
      repeat' (first
    | ((with_reducible apply run_ret Try.func24 res24 (H' := H)); (focus (simp only [go_sem, *]; rfl)); (focus trivial); (focus (repeat (first | assumption | exact Heap.sub_refl _ | refine Heap.sub_congr ?_ | refine Heap.sub_set ?_ (by assumption) | refine Heap.sub_set2 ?_ (by first | assumption | (simp only [*]; done) | (simp only [Heap.set_none', stH_none, ne_eq, *, not_false_eq_true, and_self]; done)))))))
      exact .inl ⟨he, rfl, rfl⟩
    · (with_reducible apply runD_goC); simp only [go_sem, *]
      have hlb' : H lo.b = none := by
        cases hx : H lo.b with
        | none => rfl
        | some r => rw [hsub _ _ hx] at hlb; cases hlb
      have hlc' : H lo.c = none := by
        cases hx : H lo.c with
        | none => rfl
        | some r => rw [hsub _ _ hx] at hlc; cases hlc
      have hsub2 : (stP H lo (rpl (newS t.p t.fu) (rowK k)).2.2).sub (stP Ha lo (rpl (newS t.p t.fu) (rowK k)).2.2) := stH_sub fun q r e1 e2 hq => hsub q r hq
      repeat' (first
    | ((with_reducible apply run_ret Try.func24 res24 (H' := stP H lo (rpl (newS t.p t.fu) (rowK k)).2.2)); (focus (simp only [go_sem, *]; rfl)); (focus trivial); (focus (repeat (first | assumption | exact Heap.sub_refl _ | refine Heap.sub_congr ?_ | refine Heap.sub_set ?_ (by assumption) | refine Heap.sub_set2 ?_ (by first | assumption | (simp only [*]; done) | (simp only [Heap.set_none', stH_none, ne_eq, *, not_false_eq_true, and_self]; done)))))))
      exact .inr ⟨he, lo, hlb', hlc', hne, hcap, rfl, rfl⟩
theorem nilAt_call (W : World) (H : Heap) (k : Ky) :
    CallA Try.prog W 24 [.v (.pointer none), dS k] H fun r H' => r = .tup [.v (.pointer none), .list [], .v (.int .i64 8)] ∧ H' = H := by
  refine call_in Try.func24 rfl Try.ntmps24 (by simp) ?_
  repeat' (first
    | (with_reducible apply run_seq)
    | ((with_reducible apply run_go); simp only [go_sem, *])
    | ((with_reducible apply run_cond_t); (focus (simp only [go_sem, *]; done)))
    | ((with_reducible apply run_ret Try.func24 res24 (H' := H)); (focus (simp only [go_sem, *]; rfl)); (focus trivial); (focus (repeat (first | assumption | exact Heap.sub_refl _ | refine Heap.sub_congr ?_ | refine Heap.sub_set ?_ (by assumption) | refine Heap.sub_set2 ?_ (by first | assumption | (simp only [*]; done) | (simp only [Heap.set_none', stH_none, ne_eq, *, not_false_eq_true, and_self]; done)))))))
  exact ⟨rfl, rfl⟩
end Go.Proofs.Ytcfeklnmampndaa
