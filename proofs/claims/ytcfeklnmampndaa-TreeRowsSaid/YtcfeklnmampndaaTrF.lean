/-
  Contracts: new trees; trees that are none.
-/
import Derived.Test.YtcfeklnmampndaaTrE
set_option linter.unusedSimpArgs false
set_option linter.unusedVariables false
namespace Go.Proofs.Ytcfeklnmampndaa
open Go Go.Sn Go.RowKit
-- NONE stH_none

def Tr.new (p : Pg) (fuel : Int) : Tr := ⟨p, fuel, [], 0⟩
def NewT (p : Pg) (fuel : Int) (H : Heap) (d : D) (H' : Heap) : Prop :=
  (okN p fuel = true ∧ ∃ l : TLo, H l.b = none ∧ H l.m = none ∧ l.b ≠ l.m ∧ d = .tup [pT l, .v (.int .i64 0)] ∧ H' = (H.set l.m (.map [])).set l.b (.cells (trC (Tr.new p fuel) l.m) 86)) ∨
  (okN p fuel = false ∧ d = .tup [.v (.pointer none), .v (.int .i64 1)] ∧ H' = H)
theorem newT_at {H : Heap} {p : Pg} {fuel : Int} {l : TLo} (hne : l.b ≠ l.m) : AtT ((H.set l.m (.map [])).set l.b (.cells (trC (Tr.new p fuel) l.m) 86)) l (Tr.new p fuel) :=
  ⟨Heap.set_same _ _ _, by rw [Heap.set_other _ _ hne.symm]; exact Heap.set_same _ _ _, fun x hx => (by cases hx), by simp [Tr.new], by simp [Tr.new], fun x hx => (by cases hx)⟩
set_option maxHeartbeats 4000000 in
theorem newT_call (W : World) (H : Heap) (p : Pg) (fuel : Int) (hf : FewP p) (hc : ∀ c ∈ p.th, c.length ≤ 1000000) :
    CallA Try.prog W 10 [.agg (pgC p), .v (.int .i64 fuel)] H (NewT p fuel H) := by
  refine call_in Try.func10 rfl Try.ntmps10 (by simp) ?_
  have c2 := fun H => copyF_call W H p hf
  simp only [pgC] at c2 ⊢
  repeat' (first
    | (with_reducible apply run_seq)
    | ((with_reducible apply run_go); simp only [go_sem, *])
    | ((with_reducible apply runO_box); (focus (simp only [go_sem, *]; done)); intro pb hpb; have hfb := Heap.ne_of_none hpb; (try simp only [Heap.set_none', stH_none] at hpb); (with_reducible apply runO_go); simp only [go_sem, *]))
  generalize pb = p2 at *
  (with_reducible apply runO_callF known36); simp only [go_sem, *]
  refine (stNew_call W _ p fuel hc).mono (fun d1 H1 hh => ?_)
  rcases hh with ⟨hok, lo, hlb, hlc, hne, hcap, rfl, rfl⟩ | ⟨hno, rfl, hH⟩
  · have hp2 := hpb
    have hsub : (H.set p2 (.cells [.v (.int .i64 p.vs), .v (.int .i64 p.ms), .list (thsC p.th)] 24)).sub (stP (H.set p2 (.cells [.v (.int .i64 p.vs), .v (.int .i64 p.ms), .list (thsC p.th)] 24)) lo (newS p fuel)) := stH_subH hlb hlc
    (with_reducible apply runO_go); simp only [go_sem, *]
    refine run_drop hsub ?_
    clear hsub hlb hlc hcap hne
    have HOK : Hid _ := hok
    clear hok hpb
    repeat' (first
    | (with_reducible apply run_seq)
    | (with_reducible apply run_skip)
    | ((with_reducible apply run_go); simp only [go_sem, *])
    | ((with_reducible apply run_cond_f); (focus (simp only [go_sem, *]; done))))
    (first
    | ((with_reducible apply runO_callF known37); simp only [go_sem, *]; refine (c2 _).use ?_; (with_reducible apply runO_go); simp only [go_sem, *]))
    (first
    | ((with_reducible apply runO_makeMap); intro pb hpb; have hfb := Heap.ne_of_none hpb; (try simp only [Heap.set_none', stH_none] at hpb); (with_reducible apply runO_go); simp only [go_sem, *]))
    generalize pb = pm at *
    have hpm := hpb
    clear hpb
    repeat' (first
    | ((with_reducible apply runO_box); (focus (simp only [go_sem, *]; done)); intro pb hpb; have hfb := Heap.ne_of_none hpb; (try simp only [Heap.set_none', stH_none] at hpb); (with_reducible apply runO_go); simp only [go_sem, *])
    | ((with_reducible apply run_ret Try.func10 res10 (H' := (H.set pm (.map [])).set pb (.cells (trC (Tr.new p fuel) pm) 86))); (focus (simp only [go_sem, *]; rfl)); (focus trivial); (focus (repeat (first | assumption | exact Heap.sub_refl _ | refine Heap.sub_congr ?_ | refine Heap.sub_set ?_ (by assumption) | refine Heap.sub_set2 ?_ (by first | assumption | (simp only [*]; done) | (simp only [Heap.set_none', stH_none, ne_eq, *, not_false_eq_true, and_self]; done)))))))
    exact .inl ⟨HOK.out, ⟨pb, pm⟩, hpb.2.2, hpm.2, hpb.1.1, rfl, rfl⟩
  · obtain rfl := hH.symm
    (with_reducible apply runO_go); simp only [go_sem, *]
    repeat' (first
    | (with_reducible apply run_seq)
    | ((with_reducible apply run_go); simp only [go_sem, *])
    | ((with_reducible apply run_cond_t); (focus (simp only [go_sem, *]; done)))
    | ((with_reducible apply run_ret Try.func10 res10 (H' := H)); (focus (simp only [go_sem, *]; rfl)); (focus trivial); (focus (repeat (first | assumption | exact Heap.sub_refl _ | refine Heap.sub_congr ?_ | refine Heap.sub_set ?_ (by assumption) | refine Heap.sub_set2 ?_ (by first | assumption | (simp only [*]; done) | (simp only [Heap.set_none', stH_none, ne_eq, *, not_false_eq_true, and_self]; done)))))))
    exact .inr ⟨hno, rfl, rfl⟩
end Go.Proofs.Ytcfeklnmampndaa
