/-
  Contract: the answers that the document fixes, of trees; the law of a tree that is none.
-/
import Derived.Test.YtcfeklnmampndaaTrFH
set_option linter.unusedSimpArgs false
set_option linter.unusedVariables false
namespace Go.Proofs.Ytcfeklnmampndaa
open Go Go.Sn Go.RowKit
-- NONE stH_none

def tQ : Pg := ⟨0, 0, [[⟨4, 0, 0, 1⟩], [⟨4, 0, 0, 1⟩]]⟩
theorem tQ_ok : okN tQ 1 = true := by decide
theorem tP_no : okN ⟨0, 0, []⟩ 1 = false := by decide
def U0 : Tr := Tr.new tQ 1
def U1 (a : Nat) : Tr := ⟨tQ, 1, [⟨[], a, ⟨3, 0#8, 0#8, 0#8⟩⟩], 0⟩
def U2 (a : Nat) : Tr := ⟨tQ, 1, [⟨[], a, ⟨3, 0#8, 3#8, 0#8⟩⟩], 0⟩
def U3 (a : Nat) : Tr := ⟨tQ, 1, [⟨[], a, ⟨3, 0#8, 3#8, 1#8⟩⟩], 1⟩
def U4 (a : Nat) : Tr := ⟨tQ, 1, [⟨[], a, ⟨3, 0#8, 3#8, 3#8⟩⟩], 2⟩
def U5 (a b : Nat) : Tr := ⟨tQ, 1, [⟨[], a, ⟨3, 0#8, 3#8, 3#8⟩⟩, ⟨[0], b, ⟨4, 0#8, 0#8, 0#8⟩⟩], 2⟩
def U6 (a b : Nat) : Tr := ⟨tQ, 1, [⟨[], a, ⟨5, 0#8, 3#8, 3#8⟩⟩, ⟨[0], b, ⟨4, 0#8, 0#8, 0#8⟩⟩], 2⟩
theorem u0 : U0.mkE [] = 0 := by decide
theorem u0' (a : Nat) : U0.put [] a ⟨3, 0#8, 0#8, 0#8⟩ = U1 a := rfl
theorem u1 (a : Nat) : (U1 a).mkE [] = 7 := by kernel_rfl
theorem u1' (a : Nat) : (U1 a).mkE [0] = 6 := by kernel_rfl
theorem u2 (a : Nat) : (U1 a).mrE [] = 0 ∧ (U1 a).mark [] 7#8 = U2 a := ⟨by kernel_rfl, by kernel_rfl⟩
theorem u3 (a : Nat) : (U2 a).clR [] 2 = (0, 0#8, 0) ∧ (U2 a).clm [] 2 = U3 a := ⟨by kernel_rfl, by kernel_rfl⟩
theorem u4 (a : Nat) : (U3 a).clR [] 2 = (1, 1#8, 0) ∧ (U3 a).clm [] 2 = U4 a := ⟨by kernel_rfl, by kernel_rfl⟩
theorem u5 (a : Nat) : (U4 a).clR [] 2 = (0, 0#8, 6) ∧ (U4 a).clm [] 2 = U4 a := ⟨by kernel_rfl, by kernel_rfl⟩
theorem u6 (a : Nat) : (U4 a).mkE [0] = 0 := by kernel_rfl
theorem u6' (a b : Nat) : (U4 a).put [0] b ⟨4, 0#8, 0#8, 0#8⟩ = U5 a b := rfl
theorem u7 (a b : Nat) : (U5 a b).mrE [] = 0 ∧ (U5 a b).hand [] 5 = U6 a b := ⟨by kernel_rfl, by kernel_rfl⟩
theorem u8 (a b : Nat) : (U6 a b).ow [] = 5 ∧ (U6 a b).ow [0] = 4 ∧ (U6 a b).ow [1] = -1 ∧ (U6 a b).lf [] = [] ∧ (U6 a b).sl [] = 0#8 := ⟨by kernel_rfl, by kernel_rfl, by kernel_rfl, by kernel_rfl, by kernel_rfl⟩
theorem u9 (a b : Nat) : ((U5 a b).at [0, 1]).1 = 0 ∧ ((U5 a b).at [0, 1]).2.1.length = 2 := ⟨by kernel_rfl, by kernel_rfl⟩

theorem tQ_few : ∀ c ∈ tQ.th, c.length ≤ 1000000 := by decide
theorem okU0 : OkN U0 0 := okN_new tQ_ok (by decide)
theorem okU1 (a : Nat) : OkN (U1 a) 0 := ⟨⟨tQ_ok, tQ_few⟩, fun x hx => by rw [List.mem_singleton.1 hx]; kernel_rfl, by show (0 : Int) ≤ 0; decide, by show (0 : Int) ≤ 0; decide⟩
theorem okU2 (a : Nat) : OkN (U2 a) 0 := ⟨⟨tQ_ok, tQ_few⟩, fun x hx => by rw [List.mem_singleton.1 hx]; kernel_rfl, by show (0 : Int) ≤ 0; decide, by show (0 : Int) ≤ 0; decide⟩
theorem okU3 (a : Nat) : OkN (U3 a) 1 := ⟨⟨tQ_ok, tQ_few⟩, fun x hx => by rw [List.mem_singleton.1 hx]; kernel_rfl, by show (0 : Int) ≤ 1; decide, by show (1 : Int) ≤ 1; decide⟩
theorem okU4 (a : Nat) : OkN (U4 a) 2 := ⟨⟨tQ_ok, tQ_few⟩, fun x hx => by rw [List.mem_singleton.1 hx]; kernel_rfl, by show (0 : Int) ≤ 2; decide, by show (2 : Int) ≤ 2; decide⟩
theorem okU5 (a b : Nat) : OkT (U5 a b) := ⟨tQ_ok, tQ_few⟩
theorem ok_nil : okS [] := by simp [okS]
theorem ok_0 : okS [0] := by simp [okS]
theorem ok_1 : okS [1] := by simp [okS]
theorem ok_01 : okS [0, 1] := by simp [okS]
abbrev s0 : D := .v (.string { data := #[] })
abbrev s00 : D := .v (.string { data := #[0] })
abbrev s11 : D := .v (.string { data := #[1] })
abbrev s01 : D := .v (.string { data := #[0, 1] })
section
variable {H K : Heap} {l : TLo} {a b : Nat}
theorem wM1 (W : World) (h : AtF H K l U0) : CallA Try.prog W 13 [pT l, s0, .v (.int .u8 0), .v (.int .i64 3)] K fun r K' => r = .v (.int .i64 0) ∧ ∃ a, AtF H K' l (U1 a) := by
  refine (makeF W h okU0 [] ok_nil 0#8 3).mono fun r K' hh => ?_
  obtain ⟨rfl, t', hm, h'⟩ := hh
  rcases hm with ⟨hn, _⟩ | ⟨_, a, rfl⟩
  · exact absurd u0 hn
  · exact ⟨by rw [u0], a, h'⟩
theorem wM2 (W : World) (h : AtF H K l (U1 a)) : CallA Try.prog W 13 [pT l, s0, .v (.int .u8 0), .v (.int .i64 3)] K fun r K' => r = .v (.int .i64 7) ∧ K' = K := by
  have := make_no W K l (U1 a) h.ht (okU1 a).ok [] ok_nil 0#8 3 (by rw [u1]; decide)
  rw [u1] at this
  exact this
theorem wM3 (W : World) (h : AtF H K l (U1 a)) : CallA Try.prog W 13 [pT l, s00, .v (.int .u8 0), .v (.int .i64 3)] K fun r K' => r = .v (.int .i64 6) ∧ K' = K := by
  have := make_no W K l (U1 a) h.ht (okU1 a).ok [0] ok_0 0#8 3 (by rw [u1']; decide)
  rw [u1'] at this
  exact this
theorem wK (W : World) (h : AtF H K l (U1 a)) : CallA Try.prog W 15 [pT l, s0, .v (.int .u8 7)] K fun r K' => r = .v (.int .i64 0) ∧ AtF H K' l (U2 a) := by
  have := markF W h (okU1 a) [] ok_nil 7#8
  rw [(u2 a).1, (u2 a).2] at this
  exact this
theorem wC1 (W : World) (h : AtF H K l (U2 a)) : CallA Try.prog W 17 [pT l, s0, .v (.int .i64 2)] K fun r K' => r = .tup [.v (.int .i64 0), .v (.int .u8 0), .v (.int .i64 0)] ∧ AtF H K' l (U3 a) := by
  have := claimF W h (okU2 a) (by decide) [] ok_nil 2
  rw [(u3 a).1, (u3 a).2] at this
  exact this
theorem wC2 (W : World) (h : AtF H K l (U3 a)) : CallA Try.prog W 17 [pT l, s0, .v (.int .i64 2)] K fun r K' => r = .tup [.v (.int .i64 1), .v (.int .u8 1), .v (.int .i64 0)] ∧ AtF H K' l (U4 a) := by
  have := claimF W h (okU3 a) (by decide) [] ok_nil 2
  rw [(u4 a).1, (u4 a).2] at this
  exact this
theorem wC3 (W : World) (h : AtF H K l (U4 a)) : CallA Try.prog W 17 [pT l, s0, .v (.int .i64 2)] K fun r K' => r = .tup [.v (.int .i64 0), .v (.int .u8 0), .v (.int .i64 6)] ∧ AtF H K' l (U4 a) := by
  have := claimF W h (okU4 a) (by decide) [] ok_nil 2
  rw [(u5 a).1, (u5 a).2] at this
  exact this
theorem wM4 (W : World) (h : AtF H K l (U4 a)) : CallA Try.prog W 13 [pT l, s00, .v (.int .u8 0), .v (.int .i64 4)] K fun r K' => r = .v (.int .i64 0) ∧ ∃ b, AtF H K' l (U5 a b) := by
  refine (makeF W h (okU4 a) [0] ok_0 0#8 4).mono fun r K' hh => ?_
  obtain ⟨rfl, t', hm, h'⟩ := hh
  rcases hm with ⟨hn, _⟩ | ⟨_, b, rfl⟩
  · exact absurd (u6 a) hn
  · exact ⟨by rw [u6], b, h'⟩
theorem wA (W : World) (h : AtF H K l (U5 a b)) : CallA Try.prog W 24 [pT l, s01] K fun r K' => ∃ (p : D) (es : List Ev), (r = .tup [p, .list (evsC es), .v (.int .i64 0)] ∧ AtF H K' l (U5 a b)) ∧ es.length = 2 := by
  refine (at_call W K l (U5 a b) h.ht (okU5 a b) [0, 1] ok_01).mono fun r K' hh => ?_
  rcases hh with ⟨hn, _⟩ | ⟨_, lo, hlb, hlc, hne, hcap, rfl, rfl⟩
  · exact absurd (u9 a b).1 hn
  · exact ⟨_, _, ⟨rfl, h.up (stH_subH hlb hlc)⟩, (u9 a b).2⟩
theorem wH (W : World) (h : AtF H K l (U5 a b)) : CallA Try.prog W 21 [pT l, s0, .v (.int .i64 5)] K fun r K' => r = .v (.int .i64 0) ∧ AtF H K' l (U6 a b) := by
  have := handF W h [] ok_nil 5
  rw [(u7 a b).1, (u7 a b).2] at this
  exact this
theorem wO0 (W : World) (h : AtF H K l (U6 a b)) : CallA Try.prog W 26 [pT l, s0] K fun r K' => r = .v (.int .i64 5) ∧ K' = K := by
  have := owner_call W K l (U6 a b) h.ht [] ok_nil
  rw [(u8 a b).1] at this
  exact this
theorem wO1 (W : World) (h : AtF H K l (U6 a b)) : CallA Try.prog W 26 [pT l, s00] K fun r K' => r = .v (.int .i64 4) ∧ K' = K := by
  have := owner_call W K l (U6 a b) h.ht [0] ok_0
  rw [(u8 a b).2.1] at this
  exact this
theorem wO2 (W : World) (h : AtF H K l (U6 a b)) : CallA Try.prog W 26 [pT l, s11] K fun r K' => r = .v (.int .i64 (-1)) ∧ K' = K := by
  have := owner_call W K l (U6 a b) h.ht [1] ok_1
  rw [(u8 a b).2.2.1] at this
  exact this
theorem wL (W : World) (h : AtF H K l (U6 a b)) : CallA Try.prog W 27 [pT l, s0] K fun r K' => r = .list [] ∧ K' = K := by
  have := tLeft_call W K l (U6 a b) h.ht [] ok_nil
  rw [(u8 a b).2.2.2.1] at this
  exact this
theorem wS (W : World) (h : AtF H K l (U6 a b)) : CallA Try.prog W 28 [pT l, s0] K fun r K' => r = .v (.int .u8 0) ∧ K' = K := by
  have := asleep_call W K l (U6 a b) h.ht [] ok_nil
  rw [(u8 a b).2.2.2.2] at this
  exact this
theorem wN (W : World) (h : AtF H K l (U6 a b)) : CallA Try.prog W 29 [pT l] K fun r K' => r = .v (.int .i64 2) ∧ K' = K := len_call W K l (U6 a b) h.ht
theorem wCl (W : World) (h : AtF H K l (U6 a b)) : CallA Try.prog W 30 [pT l] K fun r K' => r = .v (.int .i64 2) ∧ K' = K := claims_call W K l (U6 a b) h.ht
end

set_option maxRecDepth 100000 in
set_option maxHeartbeats 8000000 in
theorem awake10_call (W : World) (H : Heap) : CallA Try.prog W 7 [] H fun r H' => r = .v (.bool true) ∧ H' = H := by
  refine call_in Try.func7 rfl Try.ntmps7 (by simp) ?_
  have n1 : ∀ H, CallA Try.prog W 10 [.agg [.v (.int .i64 0), .v (.int .i64 0), .list [[.list [[.v (.int .i64 4), .v (.int .i64 0), .v (.int .i64 0), .v (.int .i64 1)]]], [.list [[.v (.int .i64 4), .v (.int .i64 0), .v (.int .i64 0), .v (.int .i64 1)]]]]], .v (.int .i64 1)] H (NewT tQ 1 H) := fun H => newT_call W H tQ 1 (few_of (by decide)) (by decide)
  have n2 : ∀ H, CallA Try.prog W 10 [.agg [.v (.int .i64 0), .v (.int .i64 0), .list []], .v (.int .i64 1)] H (NewT ⟨0, 0, []⟩ 1 H) := fun H => newT_call W H ⟨0, 0, []⟩ 1 (few_of (by decide)) (by simp)
  have f1 : ∀ H, CallA Try.prog W 35 [.list [[.v (.int .i64 0)]]] H fun r H' => r = .v (.int .u8 1) ∧ H' = H := fun H => by
    have h := setOf_call W H [0] (by simp); rw [show ofB [0] = 1#8 by decide] at h; exact h
  repeat' (first
    | (with_reducible apply run_seq)
    | ((with_reducible apply run_go); simp only [go_sem, *])
    | ((with_reducible apply runO_buildSlice); (focus (simp only [go_sem]; rfl)); (focus (simp only [go_sem]; rfl)); (focus (simp only [go_sem]; rfl)); (focus rfl); (focus rfl); (focus (simp only [go_sem, *]; done)); (focus (simp only [go_sem, *]; done)); (focus decide); (with_reducible apply runO_go); simp only [go_sem, *]))
  (with_reducible apply runO_callF known10); simp only [go_sem, *]
  refine (n1 _).mono (fun d1 K hh => ?_)
  rcases hh with ⟨_, l, hlb, hlm, hne, rfl, hK⟩ | ⟨hno, _, _⟩
  rotate_left
  · exact absurd hno (by decide)
  have h0 : AtF H K l U0 := by rw [hK]; exact newT_F (Heap.sub_refl _) hlb hlm hne
  clear n1 hK hlb hlm hne
  (with_reducible apply runO_go); simp only [go_sem, *]
  repeat' (first
    | (with_reducible apply run_seq)
    | ((with_reducible apply run_go); simp only [go_sem, *]))
  (with_reducible apply runO_callF known10); simp only [go_sem, *]
  refine (n2 _).mono (fun d1 K0 hh => ?_)
  rcases hh with ⟨hno, _⟩ | ⟨_, rfl, hK⟩
  · exact absurd hno (by decide)
  obtain rfl := hK.symm
  clear n2
  (with_reducible apply runO_go); simp only [go_sem, *]
  repeat' (first
    | (with_reducible apply run_seq)
    | (with_reducible apply run_skip)
    | ((with_reducible apply run_go); simp only [go_sem, *])
    | ((with_reducible apply run_cond_f); (focus (simp only [go_sem, *]; done))))
  (with_reducible apply runO_callF known13); simp only [go_sem, *]; refine (wM1 W h0).mono (fun d1 K1 hh => ?_); obtain ⟨rfl, a, h1⟩ := hh; (with_reducible apply runO_go); simp only [go_sem, *]
  clear h0
  repeat' (first
    | (with_reducible apply run_seq)
    | ((with_reducible apply run_go); simp only [go_sem, *])
    | ((with_reducible apply runO_callF known13); simp only [go_sem, *]; refine (wM2 W h1).use ?_; (with_reducible apply runO_go); simp only [go_sem, *])
    | ((with_reducible apply runO_callF known13); simp only [go_sem, *]; refine (wM3 W h1).use ?_; (with_reducible apply runO_go); simp only [go_sem, *]))
  (with_reducible apply runO_callF known15); simp only [go_sem, *]; refine (wK W h1).mono (fun d1 K2 hh => ?_); obtain ⟨rfl, h2⟩ := hh; (with_reducible apply runO_go); simp only [go_sem, *]
  clear h1
  repeat' (first
    | (with_reducible apply run_seq)
    | ((with_reducible apply run_go); simp only [go_sem, *]))
  (with_reducible apply runO_callF known17); simp only [go_sem, *]; refine (wC1 W h2).mono (fun d1 K3 hh => ?_); obtain ⟨rfl, h3⟩ := hh; (with_reducible apply runO_go); simp only [go_sem, *]
  clear h2
  repeat' (first
    | (with_reducible apply run_seq)
    | ((with_reducible apply run_go); simp only [go_sem, *]))
  (with_reducible apply runO_callF known17); simp only [go_sem, *]; refine (wC2 W h3).mono (fun d1 K4 hh => ?_); obtain ⟨rfl, h4⟩ := hh; (with_reducible apply runO_go); simp only [go_sem, *]
  clear h3
  repeat' (first
    | (with_reducible apply run_seq)
    | ((with_reducible apply run_go); simp only [go_sem, *]))
  (with_reducible apply runO_callF known17); simp only [go_sem, *]; refine (wC3 W h4).mono (fun d1 K5 hh => ?_); obtain ⟨rfl, h5⟩ := hh; (with_reducible apply runO_go); simp only [go_sem, *]
  clear h4
  repeat' (first
    | (with_reducible apply run_seq)
    | ((with_reducible apply run_go); simp only [go_sem, *]))
  (with_reducible apply runO_callF known13); simp only [go_sem, *]; refine (wM4 W h5).mono (fun d1 K6 hh => ?_); obtain ⟨rfl, b, h6⟩ := hh; (with_reducible apply runO_go); simp only [go_sem, *]
  clear h5
  repeat' (first
    | (with_reducible apply run_seq)
    | ((with_reducible apply run_go); simp only [go_sem, *]))
  (with_reducible apply runO_callF known24); simp only [go_sem, *]; refine (wA W h6).mono (fun d1 K7 hh => ?_); obtain ⟨p, es, ⟨rfl, h7⟩, hel⟩ := hh; (with_reducible apply runO_go); simp only [go_sem, *]
  clear h6
  repeat' (first
    | (with_reducible apply run_seq)
    | ((with_reducible apply run_go); simp only [go_sem, *]))
  (with_reducible apply runO_callF known21); simp only [go_sem, *]; refine (wH W h7).mono (fun d1 K8 hh => ?_); obtain ⟨rfl, h8⟩ := hh; (with_reducible apply runO_go); simp only [go_sem, *]
  clear h7
  have hsub := h8.sub
  simp only [lapp_cons, lapp_nil]
  repeat' (first
    | (with_reducible apply run_seq)
    | ((with_reducible apply run_go); simp only [go_sem, *])
    | ((with_reducible apply runO_callFG known26); (focus (simp only [go_sem, *]; rfl)); (focus (intro _; simp only [go_sem, *]; exact wO0 W h8)); (with_reducible apply runO_go); simp only [go_sem, *])
    | ((with_reducible apply runO_callFG known26); (focus (simp only [go_sem, *]; rfl)); (focus (intro _; simp only [go_sem, *]; exact wO1 W h8)); (with_reducible apply runO_go); simp only [go_sem, *])
    | ((with_reducible apply runO_callFG known26); (focus (simp only [go_sem, *]; rfl)); (focus (intro _; simp only [go_sem, *]; exact wO2 W h8)); (with_reducible apply runO_go); simp only [go_sem, *])
    | ((with_reducible apply runO_callFG known27); (focus (simp only [go_sem, *]; rfl)); (focus (intro _; simp only [go_sem, *]; exact wL W h8)); (with_reducible apply runO_go); simp only [go_sem, *])
    | ((with_reducible apply runO_callFG known28); (focus (simp only [go_sem, *]; rfl)); (focus (intro _; simp only [go_sem, *]; exact wS W h8)); (with_reducible apply runO_go); simp only [go_sem, *])
    | ((with_reducible apply runO_callFG known29); (focus (simp only [go_sem, *]; rfl)); (focus (intro _; simp only [go_sem, *]; exact wN W h8)); (with_reducible apply runO_go); simp only [go_sem, *])
    | ((with_reducible apply runO_callFG known30); (focus (simp only [go_sem, *]; rfl)); (focus (intro _; simp only [go_sem, *]; exact wCl W h8)); (with_reducible apply runO_go); simp only [go_sem, *])
    | ((with_reducible apply runO_callFG known35); (focus (simp only [go_sem, *]; rfl)); (focus (intro _; simp only [go_sem, *]; exact f1 _)); (with_reducible apply runO_go); simp only [go_sem, *])
    | ((with_reducible apply runO_buildSliceG); (focus (simp only [go_sem, *]; rfl)); (focus (simp only [go_sem]; rfl)); (focus (simp only [go_sem]; rfl)); (focus (simp only [go_sem]; rfl)); (focus rfl); (focus rfl); (focus (simp only [go_sem, *]; done)); (focus (simp only [go_sem, *]; done)); (focus decide); (with_reducible apply runO_go); simp only [go_sem, *])
    | ((with_reducible apply run_ret Try.func7 res7 (H' := H)); (focus (simp only [go_sem, *]; rfl)); (focus trivial); (focus (repeat (first | assumption | exact Heap.sub_refl _ | refine Heap.sub_congr ?_ | refine Heap.sub_set ?_ (by assumption) | refine Heap.sub_set2 ?_ (by first | assumption | (simp only [*]; done) | (simp only [Heap.set_none', stH_none, ne_eq, *, not_false_eq_true, and_self]; done)))))))
  exact ⟨rfl, rfl⟩
end Go.Proofs.Ytcfeklnmampndaa
