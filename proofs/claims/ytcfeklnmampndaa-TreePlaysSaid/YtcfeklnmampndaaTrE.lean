/-
  Contracts: going into a thread; new trees; trees that are none.
-/
import Derived.Test.YtcfeklnmampndaaTrD
import Derived.Test.YtcfeklnmampndaaStX
import Derived.Test.YtcfeklnmampndaaPgI
set_option linter.unusedSimpArgs false
set_option linter.unusedVariables false
namespace Go.Proofs.Ytcfeklnmampndaa
open Go Go.Sn Go.RowKit
-- NONE stH_none

theorem allB_nil (s : BitVec 8) : allB s 8 = [] ↔ s = 0#8 := by
  obtain ⟨s⟩ := s
  revert s
  decide +kernel
/-- The thread that a claim draws. -/
def clT (n : Nd) (d : Int) : Int := (allB n.left 8).getD ((IntKind.u64.wrap d).tmod ((allB n.left 8).length : Int)).toNat default
def Nd.cl (n : Nd) (d : Int) : Nd := { n with dn := n.dn ||| bitE (clT n d) }
def Tr.cla (t : Tr) (k : Ky) (n : Nd) (d : Int) : Tr := { t.upd k (n.cl d) with cl := t.cl + 1 }
theorem AtT.cla {H : Heap} {l : TLo} {t : Tr} (h : AtT H l t) {k : Ky} {x : Nt} (hx : t.fnd k = some x) (d : Int) :
    AtT ((H.set x.b (.cells (ndC (x.n.cl d)) 98)).set l.b (.cells (trC (t.cla k x.n d) l.m) 86)) l (t.cla k x.n d) := by
  have hu := h.turn hx (x.n.cl d)
  refine ⟨Heap.set_same _ _ _, ?_, fun y hy => ?_, hu.nd, hu.kd, hu.ok⟩
  · rw [Heap.set_other _ _ hu.bm.symm]; exact hu.hm
  · rw [Heap.set_other _ _ (hu.node_ne hy).1.symm]; exact hu.hn y hy
theorem u8_left (n : Nd) : decide ((n.left.toNat : Int) = 0) = decide (n.left = 0#8) := decide_eq_decide.2 (u8_zero _)

theorem claim_no (W : World) (H : Heap) (l : TLo) (t : Tr) (h : AtT H l t) (k : Ky) (hk : okS k) (d : Int) (he : t.lf k = []) :
    CallA Try.prog W 17 [pT l, dS k, .v (.int .i64 d)] H fun r H' => r = .tup [.v (.int .i64 0), .v (.int .u8 0), .v (.int .i64 6)] ∧ H' = H := by
  refine call_in Try.func17 rfl Try.ntmps17 (by simp) ?_
  unfold Tr.lf at he
  cases hx : t.fnd k with
  | none =>
    have c1 := find_none W h hk hx
    clear he
    repeat' (first
    | (with_reducible apply run_seq)
    | (with_reducible apply run_block)
    | ((with_reducible apply run_go); simp only [go_sem, *])
    | ((with_reducible apply run_cond_t); (focus (simp only [go_sem, *]; done)))
    | ((with_reducible apply run_cond_f); (focus (simp only [go_sem, *]; done)))
    | ((with_reducible apply runO_skipF); (focus (simp only [go_sem, *]; rfl)); (focus rfl); (with_reducible apply runO_go); simp only [go_sem, *])
    | ((with_reducible apply runO_callF known39); simp only [go_sem, *]; refine (c1).use ?_; (with_reducible apply runO_go); simp only [go_sem, *])
    | ((with_reducible apply run_ret Try.func17 res17 (H' := H)); (focus (simp only [go_sem, *]; rfl)); (focus trivial); (focus (repeat (first | assumption | exact Heap.sub_refl _ | refine Heap.sub_congr ?_ | refine Heap.sub_set ?_ (by assumption) | refine Heap.sub_set2 ?_ (by first | assumption | (simp only [*]; done) | (simp only [Heap.set_none', stH_none, ne_eq, *, not_false_eq_true, and_self]; done)))))))
    exact ⟨rfl, rfl⟩
  | some x =>
    rw [hx] at he
    replace he : allB x.n.left 8 = [] := he
    rw [allB_nil] at he
    have c1 := find_some W h hk hx
    have c2 := left_call W H x.b x.n (h.node hx)
    rw [he] at c2
    have c2' : CallA Try.prog W 43 [.v (.pointer (some ⟨x.b, 0, none⟩))] H fun r H' => r = .v (.int .u8 0) ∧ H' = H := c2
    clear he c2
    repeat' (first
    | (with_reducible apply run_seq)
    | (with_reducible apply run_block)
    | ((with_reducible apply run_go); simp only [go_sem, *])
    | ((with_reducible apply run_cond_t); (focus (simp only [go_sem, *]; done)))
    | ((with_reducible apply run_cond_f); (focus (simp only [go_sem, *]; done)))
    | ((with_reducible apply runO_callF known39); simp only [go_sem, *]; refine (c1).use ?_; (with_reducible apply runO_go); simp only [go_sem, *])
    | ((with_reducible apply runO_callFG known43); (focus (simp only [go_sem, *]; rfl)); (focus (intro _; simp only [go_sem, *]; exact c2')); (with_reducible apply runO_go); simp only [go_sem, *])
    | ((with_reducible apply run_ret Try.func17 res17 (H' := H)); (focus (simp only [go_sem, *]; rfl)); (focus trivial); (focus (repeat (first | assumption | exact Heap.sub_refl _ | refine Heap.sub_congr ?_ | refine Heap.sub_set ?_ (by assumption) | refine Heap.sub_set2 ?_ (by first | assumption | (simp only [*]; done) | (simp only [Heap.set_none', stH_none, ne_eq, *, not_false_eq_true, and_self]; done)))))))
    exact ⟨rfl, rfl⟩

set_option maxHeartbeats 4000000 in
theorem claim_ok (W : World) (H : Heap) (l : TLo) (t : Tr) (h : AtT H l t) (ho : OkT t) (k : Ky) (hk : okS k) (d : Int) {x : Nt} (hx : t.fnd k = some x) (he : x.n.left ≠ 0#8) (h0 : (t.at k).1 = 0) (hc : 0 ≤ t.cl ∧ t.cl ≤ 1000000) :
    CallA Try.prog W 17 [pT l, dS k, .v (.int .i64 d)] H fun r H' =>
      r = .tup [.v (.int .i64 (clT x.n d)), .v (.int .u8 ((chE (t.at k).2.2 x.n.sl x.n.dn (clT x.n d)).toNat : Int)), .v (.int .i64 0)] ∧
      H' = (H.set x.b (.cells (ndC (x.n.cl d)) 98)).set l.b (.cells (trC (t.cla k x.n d) l.m) 86) := by
  refine call_in Try.func17 rfl Try.ntmps17 (by simp) ?_
  have c1 := find_some W h hk hx
  have hn := h.node hx
  have hb := h.cell
  have hbx := (h.node_ne (fnd_mem hx).1).1
  have hbx' := hbx.symm
  have c2 := left_call W H x.b x.n hn
  have c3 := fun H => setAll_call W H x.n.left
  have hl8 := allB_len x.n.left 8
  have hne : ¬ allB x.n.left 8 = [] := fun e => he ((allB_nil _).1 e)
  have hpos := List.length_pos_iff.2 hne
  obtain ⟨j, hj, ej, wj⟩ := fmod_ex d (n := (allB x.n.left 8).length) (by omega) (by omega)
  have hun := fu64_nat (n := (allB x.n.left 8).length) (by omega)
  have hjL : ((j : Int) < ((allB x.n.left 8).length : Int)) := by omega
  have hL0 : ¬ (((allB x.n.left 8).length : Int) = 0) := by omega
  have hl0 : ¬ ((x.n.left.toNat : Int) = 0) := by rw [u8_zero]; exact he
  have hct : clT x.n d = (allB x.n.left 8).getD j default := by unfold clT; rw [ej]; simp
  have hcn : x.n.cl d = { x.n with dn := x.n.dn ||| bitE ((allB x.n.left 8).getD j default) } := by unfold Nd.cl; rw [hct]
  have hw : IntKind.i64.wrap (t.cl + 1) = t.cl + 1 := wrapP (by omega) (by omega)
  have hcla : trC (t.cla k x.n d) l.m = [.v (.int .i64 t.p.vs), .v (.int .i64 t.p.ms), .list (thsC t.p.th), .v (.int .i64 t.fu), .v (.map (some l.m)), .v (.int .i64 (t.cl + 1))] := rfl
  rw [hct, hcn, hcla]
  clear hct hcn hcla hne
  generalize (allB x.n.left 8) = L at *
  generalize hth : L.getD j default = th at *
  repeat' (first
    | (with_reducible apply run_seq)
    | (with_reducible apply run_block)
    | (with_reducible apply run_inBlock)
    | (with_reducible apply run_skip)
    | ((with_reducible apply run_go); simp only [go_sem, *])
    | ((with_reducible apply run_cond_f); (focus (simp only [go_sem, *]; done)))
    | ((with_reducible apply runO_callF known39); simp only [go_sem, *]; refine (c1).use ?_; (with_reducible apply runO_go); simp only [go_sem, *])
    | ((with_reducible apply runO_callF known43); simp only [go_sem, *]; refine (c2).use ?_; (with_reducible apply runO_go); simp only [go_sem, *])
    | ((with_reducible apply runO_callFG known43); (focus (simp only [go_sem, *]; rfl)); (focus (intro _; simp only [go_sem, *]; exact c2)); (with_reducible apply runO_go); simp only [go_sem, *])
    | ((with_reducible apply runO_callF known20); simp only [go_sem, *]; refine (c3 _).use ?_; (with_reducible apply runO_go); simp only [go_sem, *]))
  (with_reducible apply runO_callF known24); simp only [go_sem, *]
  refine (at_call W H l t h ho k hk).mono (fun d1 H1 hh => ?_)
  rcases hh with ⟨h1, _⟩ | ⟨_, lo, hlb, hlc, hne, hcap, rfl, rfl⟩
  · exact absurd h0 h1
  obtain ⟨hs, hsp⟩ := ho.st k
  have hcap2 : (t.at k).2.2.ts.length ≤ lo.cap := by rw [hs.len, hsp]; exact hcap
  have hat : AtP (stP H lo (t.at k).2.2) lo (t.at k).2.2 := stH_at hne hcap2
  have hsub : H.sub (stP H lo (t.at k).2.2) := stH_subH hlb hlc
  have hn2 := hsub _ _ hn
  have hb2 := hsub _ _ hb
  have hq : (stP H lo (t.at k).2.2) = (stP H lo (t.at k).2.2) := rfl
  generalize (t.at k).2.1 = evs at *
  have c5 := child_call W (stP H lo (t.at k).2.2) lo (t.at k).2.2 hat hs x.n.sl x.n.dn th
  have c6 := fun H => setWith_call W H x.n.dn th
  generalize (t.at k).2.2 = st at *
  generalize chE st x.n.sl x.n.dn th = ch at *
  have HX : Hid _ := hx
  clear hx c1 c2 c3 h h0 he hq hs hsp hcap2 hat
  generalize stP H lo st = K at *
  clear hlb hlc hcap hne
  (with_reducible apply runO_go); simp only [go_sem, *]
  repeat' (first
    | (with_reducible apply run_seq)
    | ((with_reducible apply run_go); simp only [go_sem, *])
    | ((with_reducible apply run_drawGo Cl.zero Cl.zero_plain mixed); (focus kernel_rfl); simp only [go_sem, *])
    | ((with_reducible apply runO_store); (focus (simp only [go_sem]; rfl)); (focus (simp only [go_sem, *]; rfl)); (focus (simp only [go_sem, *]; rfl)); (focus (simp only [go_sem, *]; done)); (focus (simp only [go_sem, *]; done)); (focus (simp only [go_sem, *]; done)); (with_reducible apply runO_go); simp only [go_sem, *, Heap.set_set])
    | ((with_reducible apply runD_callF known44); (focus rfl); (focus (simp only [go_sem, *]; exact c5)); (with_reducible first | apply runD_go Cl.zero_plain | apply runD_goC); simp only [go_sem, *])
    | ((with_reducible apply runO_callF known45); simp only [go_sem, *]; refine (c6 _).use ?_; (with_reducible apply runO_go); simp only [go_sem, *])
    | ((with_reducible apply run_ret Try.func17 res17 (H' := (H.set x.b (.cells (ndC { x.n with dn := x.n.dn ||| bitE th }) 98)).set l.b (.cells [.v (.int .i64 t.p.vs), .v (.int .i64 t.p.ms), .list (thsC t.p.th), .v (.int .i64 t.fu), .v (.map (some l.m)), .v (.int .i64 (t.cl + 1))] 86))); (focus (simp only [go_sem, *]; rfl)); (focus trivial); (focus (repeat (first | assumption | exact Heap.sub_refl _ | refine Heap.sub_congr ?_ | refine Heap.sub_set ?_ (by assumption) | refine Heap.sub_set2 ?_ (by first | assumption | (simp only [*]; done) | (simp only [Heap.set_none', stH_none, ne_eq, *, not_false_eq_true, and_self]; done)))))))
  exact ⟨rfl, rfl⟩
end Go.Proofs.Ytcfeklnmampndaa
