/-
  Contracts: what is read of a tree; handing over, marking.
-/
import Derived.Test.YtcfeklnmampndaaTrAB
import Derived.Test.YtcfeklnmampndaaSlB
set_option linter.unusedSimpArgs false
set_option linter.unusedVariables false
namespace Go.Proofs.Ytcfeklnmampndaa
open Go Go.Sn Go.RowKit
-- NONE stH_none

theorem find_none (W : World) {H : Heap} {l : TLo} {t : Tr} (h : AtT H l t) {k : Ky} (hk : okS k) (hx : t.fnd k = none) :
    CallA Try.prog W 39 [pT l, dS k] H fun r H' => r = .v (.pointer none) ∧ H' = H := by
  have := find_call W H l t h k hk
  rw [hx] at this
  exact this
theorem find_some (W : World) {H : Heap} {l : TLo} {t : Tr} (h : AtT H l t) {k : Ky} (hk : okS k) {x : Nt} (hx : t.fnd k = some x) :
    CallA Try.prog W 39 [pT l, dS k] H fun r H' => r = .v (.pointer (some ⟨x.b, 0, none⟩)) ∧ H' = H := by
  have := find_call W H l t h k hk
  rw [hx] at this
  exact this
def Tr.ow (t : Tr) (k : Ky) : Int := match t.fnd k with | none => -1 | some x => x.n.ow
def Tr.lf (t : Tr) (k : Ky) : List Int := match t.fnd k with | none => [] | some x => allB x.n.left 8
def Tr.sl (t : Tr) (k : Ky) : BitVec 8 := match t.fnd k with | none => 0#8 | some x => x.n.sl

theorem owner_call (W : World) (H : Heap) (l : TLo) (t : Tr) (h : AtT H l t) (k : Ky) (hk : okS k) :
    CallA Try.prog W 26 [pT l, dS k] H fun r H' => r = .v (.int .i64 (t.ow k)) ∧ H' = H := by
  refine call_in Try.func26 rfl Try.ntmps26 (by simp) ?_
  cases hx : t.fnd k with
  | none =>
    have c1 := find_none W h hk hx
    have hE : t.ow k = -1 := by unfold Tr.ow; rw [hx]
    rw [hE]
    repeat' (first
    | (with_reducible apply run_seq)
    | ((with_reducible apply run_go); simp only [go_sem, *])
    | ((with_reducible apply run_cond_t); (focus (simp only [go_sem, *]; done)))
    | ((with_reducible apply runO_callF known39); simp only [go_sem, *]; refine (c1).use ?_; (with_reducible apply runO_go); simp only [go_sem, *])
    | ((with_reducible apply run_ret Try.func26 res26 (H' := H)); (focus (simp only [go_sem, *]; rfl)); (focus trivial); (focus (repeat (first | assumption | exact Heap.sub_refl _ | refine Heap.sub_congr ?_ | refine Heap.sub_set ?_ (by assumption) | refine Heap.sub_set2 ?_ (by first | assumption | (simp only [*]; done) | (simp only [Heap.set_none', stH_none, ne_eq, *, not_false_eq_true, and_self]; done)))))))
    exact ⟨rfl, rfl⟩
  | some x =>
    have c1 := find_some W h hk hx
    have hn := h.node hx
    have hE : t.ow k = x.n.ow := by unfold Tr.ow; rw [hx]
    rw [hE]
    repeat' (first
    | (with_reducible apply run_seq)
    | (with_reducible apply run_skip)
    | ((with_reducible apply run_go); simp only [go_sem, *])
    | ((with_reducible apply run_cond_f); (focus (simp only [go_sem, *]; done)))
    | ((with_reducible apply runO_callF known39); simp only [go_sem, *]; refine (c1).use ?_; (with_reducible apply runO_go); simp only [go_sem, *])
    | ((with_reducible apply run_ret Try.func26 res26 (H' := H)); (focus (simp only [go_sem, *]; rfl)); (focus trivial); (focus (repeat (first | assumption | exact Heap.sub_refl _ | refine Heap.sub_congr ?_ | refine Heap.sub_set ?_ (by assumption) | refine Heap.sub_set2 ?_ (by first | assumption | (simp only [*]; done) | (simp only [Heap.set_none', stH_none, ne_eq, *, not_false_eq_true, and_self]; done)))))))
    exact ⟨rfl, rfl⟩
theorem asleep_call (W : World) (H : Heap) (l : TLo) (t : Tr) (h : AtT H l t) (k : Ky) (hk : okS k) :
    CallA Try.prog W 28 [pT l, dS k] H fun r H' => r = .v (.int .u8 ((t.sl k).toNat : Int)) ∧ H' = H := by
  refine call_in Try.func28 rfl Try.ntmps28 (by simp) ?_
  cases hx : t.fnd k with
  | none =>
    have c1 := find_none W h hk hx
    have hE : t.sl k = 0#8 := by unfold Tr.sl; rw [hx]
    rw [hE]
    repeat' (first
    | (with_reducible apply run_seq)
    | ((with_reducible apply run_go); simp only [go_sem, *])
    | ((with_reducible apply run_cond_t); (focus (simp only [go_sem, *]; done)))
    | ((with_reducible apply runO_callF known39); simp only [go_sem, *]; refine (c1).use ?_; (with_reducible apply runO_go); simp only [go_sem, *])
    | ((with_reducible apply run_ret Try.func28 res28 (H' := H)); (focus (simp only [go_sem, *]; rfl)); (focus trivial); (focus (repeat (first | assumption | exact Heap.sub_refl _ | refine Heap.sub_congr ?_ | refine Heap.sub_set ?_ (by assumption) | refine Heap.sub_set2 ?_ (by first | assumption | (simp only [*]; done) | (simp only [Heap.set_none', stH_none, ne_eq, *, not_false_eq_true, and_self]; done)))))))
    exact ⟨rfl, rfl⟩
  | some x =>
    have c1 := find_some W h hk hx
    have hn := h.node hx
    have hE : t.sl k = x.n.sl := by unfold Tr.sl; rw [hx]
    rw [hE]
    repeat' (first
    | (with_reducible apply run_seq)
    | (with_reducible apply run_skip)
    | ((with_reducible apply run_go); simp only [go_sem, *])
    | ((with_reducible apply run_cond_f); (focus (simp only [go_sem, *]; done)))
    | ((with_reducible apply runO_callF known39); simp only [go_sem, *]; refine (c1).use ?_; (with_reducible apply runO_go); simp only [go_sem, *])
    | ((with_reducible apply run_ret Try.func28 res28 (H' := H)); (focus (simp only [go_sem, *]; rfl)); (focus trivial); (focus (repeat (first | assumption | exact Heap.sub_refl _ | refine Heap.sub_congr ?_ | refine Heap.sub_set ?_ (by assumption) | refine Heap.sub_set2 ?_ (by first | assumption | (simp only [*]; done) | (simp only [Heap.set_none', stH_none, ne_eq, *, not_false_eq_true, and_self]; done)))))))
    exact ⟨rfl, rfl⟩
theorem tLeft_call (W : World) (H : Heap) (l : TLo) (t : Tr) (h : AtT H l t) (k : Ky) (hk : okS k) :
    CallA Try.prog W 27 [pT l, dS k] H fun r H' => r = .list (intsC (t.lf k)) ∧ H' = H := by
  refine call_in Try.func27 rfl Try.ntmps27 (by simp) ?_
  cases hx : t.fnd k with
  | none =>
    have c1 := find_none W h hk hx
    have hE : t.lf k = [] := by unfold Tr.lf; rw [hx]
    rw [hE]
    repeat' (first
    | (with_reducible apply run_seq)
    | ((with_reducible apply run_go); simp only [go_sem, *])
    | ((with_reducible apply run_cond_t); (focus (simp only [go_sem, *]; done)))
    | ((with_reducible apply runO_callF known39); simp only [go_sem, *]; refine (c1).use ?_; (with_reducible apply runO_go); simp only [go_sem, *])
    | ((with_reducible apply run_ret Try.func27 res27 (H' := H)); (focus (simp only [go_sem, *]; rfl)); (focus trivial); (focus (repeat (first | assumption | exact Heap.sub_refl _ | refine Heap.sub_congr ?_ | refine Heap.sub_set ?_ (by assumption) | refine Heap.sub_set2 ?_ (by first | assumption | (simp only [*]; done) | (simp only [Heap.set_none', stH_none, ne_eq, *, not_false_eq_true, and_self]; done)))))))
    exact ⟨rfl, rfl⟩
  | some x =>
    have c1 := find_some W h hk hx
    have hn := h.node hx
    have c2 := left_call W H x.b x.n hn
    have c3 := fun H => setAll_call W H x.n.left
    have hE : t.lf k = allB x.n.left 8 := by unfold Tr.lf; rw [hx]
    rw [hE]
    repeat' (first
    | (with_reducible apply run_seq)
    | (with_reducible apply run_skip)
    | ((with_reducible apply run_go); simp only [go_sem, *])
    | ((with_reducible apply run_cond_f); (focus (simp only [go_sem, *]; done)))
    | ((with_reducible apply runO_callF known39); simp only [go_sem, *]; refine (c1).use ?_; (with_reducible apply runO_go); simp only [go_sem, *])
    | ((with_reducible apply runO_callF known43); simp only [go_sem, *]; refine (c2).use ?_; (with_reducible apply runO_go); simp only [go_sem, *])
    | ((with_reducible apply runO_callF known20); simp only [go_sem, *]; refine (c3 _).use ?_; (with_reducible apply runO_go); simp only [go_sem, *])
    | ((with_reducible apply run_ret Try.func27 res27 (H' := H)); (focus (simp only [go_sem, *]; rfl)); (focus trivial); (focus (repeat (first | assumption | exact Heap.sub_refl _ | refine Heap.sub_congr ?_ | refine Heap.sub_set ?_ (by assumption) | refine Heap.sub_set2 ?_ (by first | assumption | (simp only [*]; done) | (simp only [Heap.set_none', stH_none, ne_eq, *, not_false_eq_true, and_self]; done)))))))
    exact ⟨rfl, rfl⟩
theorem mapT_len (ns : List Nt) : (mapT ns).length = ns.length := by unfold mapT; rw [entC_length]; simp [mpT]
theorem len_call (W : World) (H : Heap) (l : TLo) (t : Tr) (h : AtT H l t) :
    CallA Try.prog W 29 [pT l] H fun r H' => r = .v (.int .i64 (t.ns.length : Int)) ∧ H' = H := by
  refine call_in Try.func29 rfl Try.ntmps29 (by simp) ?_
  have hb := h.cell
  have hm := h.hm
  have hl := mapT_len t.ns
  repeat' (first
    | (with_reducible apply run_seq)
    | (with_reducible apply run_skip)
    | ((with_reducible apply run_go); simp only [go_sem, *])
    | ((with_reducible apply run_cond_f); (focus (simp only [go_sem, *]; done)))
    | ((with_reducible apply run_ret Try.func29 res29 (H' := H)); (focus (simp only [go_sem, *]; rfl)); (focus trivial); (focus (repeat (first | assumption | exact Heap.sub_refl _ | refine Heap.sub_congr ?_ | refine Heap.sub_set ?_ (by assumption) | refine Heap.sub_set2 ?_ (by first | assumption | (simp only [*]; done) | (simp only [Heap.set_none', stH_none, ne_eq, *, not_false_eq_true, and_self]; done)))))))
  exact ⟨rfl, rfl⟩
theorem claims_call (W : World) (H : Heap) (l : TLo) (t : Tr) (h : AtT H l t) :
    CallA Try.prog W 30 [pT l] H fun r H' => r = .v (.int .i64 t.cl) ∧ H' = H := by
  refine call_in Try.func30 rfl Try.ntmps30 (by simp) ?_
  have hb := h.cell
  repeat' (first
    | (with_reducible apply run_seq)
    | (with_reducible apply run_skip)
    | ((with_reducible apply run_go); simp only [go_sem, *])
    | ((with_reducible apply run_cond_f); (focus (simp only [go_sem, *]; done)))
    | ((with_reducible apply run_ret Try.func30 res30 (H' := H)); (focus (simp only [go_sem, *]; rfl)); (focus trivial); (focus (repeat (first | assumption | exact Heap.sub_refl _ | refine Heap.sub_congr ?_ | refine Heap.sub_set ?_ (by assumption) | refine Heap.sub_set2 ?_ (by first | assumption | (simp only [*]; done) | (simp only [Heap.set_none', stH_none, ne_eq, *, not_false_eq_true, and_self]; done)))))))
  exact ⟨rfl, rfl⟩

/-! ### a node turned -/
def updN (ns : List Nt) (k : Ky) (n : Nd) : List Nt := ns.map fun x => if x.k = k then { x with n := n } else x
def Tr.upd (t : Tr) (k : Ky) (n : Nd) : Tr := { t with ns := updN t.ns k n }
theorem mpT_upd (ns : List Nt) (k : Ky) (n : Nd) : mpT (updN ns k n) = mpT ns := by
  unfold mpT updN
  rw [List.map_map]
  refine List.map_congr_left fun x _ => ?_
  simp only [Function.comp]
  split <;> rfl
theorem updN_k (ns : List Nt) (k : Ky) (n : Nd) : (updN ns k n).map (·.k) = ns.map (·.k) := by
  unfold updN
  rw [List.map_map]
  refine List.map_congr_left fun x _ => ?_
  simp only [Function.comp]
  split <;> rfl
theorem updN_b (ns : List Nt) (k : Ky) (n : Nd) : (updN ns k n).map (·.b) = ns.map (·.b) := by
  unfold updN
  rw [List.map_map]
  refine List.map_congr_left fun x _ => ?_
  simp only [Function.comp]
  split <;> rfl
theorem updN_len (ns : List Nt) (k : Ky) (n : Nd) : (updN ns k n).length = ns.length := by simp [updN]
theorem nodup_eq {α β : Type} {f : α → β} : ∀ {l : List α}, (l.map f).Nodup → ∀ {x y : α}, x ∈ l → y ∈ l → f x = f y → x = y
  | [], _, _, _, hx, _, _ => by cases hx
  | a :: l, h, x, y, hx, hy, e => by
    rw [List.map_cons, List.nodup_cons] at h
    rcases List.mem_cons.1 hx with rfl | hx'
    · rcases List.mem_cons.1 hy with rfl | hy'
      · rfl
      · exact absurd (List.mem_map.2 ⟨y, hy', e.symm⟩) h.1
    · rcases List.mem_cons.1 hy with rfl | hy'
      · exact absurd (List.mem_map.2 ⟨x, hx', e⟩) h.1
      · exact nodup_eq h.2 hx' hy' e
theorem AtT.node_ne {H : Heap} {l : TLo} {t : Tr} (h : AtT H l t) {x : Nt} (hx : x ∈ t.ns) : l.b ≠ x.b ∧ l.m ≠ x.b ∧ l.b ≠ l.m := by
  have h1 := h.hb
  have h2 := h.hm
  have h3 := h.hn x hx
  refine ⟨fun e => ?_, fun e => ?_, fun e => ?_⟩
  · rw [e, h3] at h1
    injection h1 with h1
    injection h1 with _ h1
    exact absurd h1 (by decide)
  · rw [e, h3] at h2
    cases h2
  · rw [e, h2] at h1
    cases h1
theorem AtT.bm {H : Heap} {l : TLo} {t : Tr} (h : AtT H l t) : l.b ≠ l.m := fun e => by
  have h1 := h.hb
  rw [e, h.hm] at h1
  cases h1
theorem AtT.turn {H : Heap} {l : TLo} {t : Tr} (h : AtT H l t) {k : Ky} {x : Nt} (hx : t.fnd k = some x) (n : Nd) : AtT (H.set x.b (.cells (ndC n) 98)) l (t.upd k n) := by
  obtain ⟨hm, hk⟩ := fnd_mem hx
  obtain ⟨n1, n2, _⟩ := h.node_ne hm
  refine ⟨?_, ?_, fun y hy => ?_, ?_, ?_, fun y hy => ?_⟩
  · rw [Heap.set_other _ _ n1]; exact h.hb
  · rw [Heap.set_other _ _ n2]
    show H l.m = some (.map (entC kcS vcB (mpT (updN t.ns k n))))
    rw [mpT_upd]
    exact h.hm
  · obtain ⟨z, hz, rfl⟩ := List.mem_map.1 hy
    by_cases e : z.k = k
    · obtain rfl : z = x := nodup_eq h.kd hz hm (e.trans hk.symm)
      rw [if_pos e]
      exact Heap.set_same _ _ _
    · rw [if_neg e]
      have hne : z.b ≠ x.b := fun e2 => e (by rw [nodup_eq h.nd hz hm e2]; exact hk)
      rw [Heap.set_other _ _ hne]
      exact h.hn z hz
  · show ((updN t.ns k n).map (·.b)).Nodup
    rw [updN_b]; exact h.nd
  · show ((updN t.ns k n).map (·.k)).Nodup
    rw [updN_k]; exact h.kd
  · obtain ⟨z, hz, rfl⟩ := List.mem_map.1 hy
    split
    · exact h.ok z hz
    · exact h.ok z hz
theorem fnd_upd {ns : List Nt} {k : Ky} {x : Nt} (hx : fndN ns k = some x) (n : Nd) (k' : Ky) : fndN (updN ns k n) k' = if k' = k then some { x with n := n } else fndN ns k' := by
  unfold fndN updN at *
  rw [List.find?_map]
  have hp : ((fun y : Nt => decide (y.k = k')) ∘ fun y => if y.k = k then { y with n := n } else y) = fun y => decide (y.k = k') := by
    funext y
    simp only [Function.comp]
    split <;> rfl
  rw [hp]
  by_cases e : k' = k
  · subst e
    rw [hx, if_pos rfl]
    have := fnd_mem (ns := ns) (k := k') hx
    simp [this.2]
  · rw [if_neg e]
    cases hy : ns.find? (fun y => decide (y.k = k')) with
    | none => rfl
    | some y =>
      have := fnd_mem (ns := ns) (k := k') hy
      simp [this.2, e]

theorem hand_none (W : World) (H : Heap) (l : TLo) (t : Tr) (h : AtT H l t) (k : Ky) (hk : okS k) (o : Int) (hx : t.fnd k = none) :
    CallA Try.prog W 21 [pT l, dS k, .v (.int .i64 o)] H fun r H' => r = .v (.int .i64 6) ∧ H' = H := by
  refine call_in Try.func21 rfl Try.ntmps21 (by simp) ?_
  have c1 := find_none W h hk hx
  repeat' (first
    | (with_reducible apply run_seq)
    | (with_reducible apply run_block)
    | ((with_reducible apply run_go); simp only [go_sem, *])
    | ((with_reducible apply run_cond_t); (focus (simp only [go_sem, *]; done)))
    | ((with_reducible apply run_cond_f); (focus (simp only [go_sem, *]; done)))
    | ((with_reducible apply runO_callF known39); simp only [go_sem, *]; refine (c1).use ?_; (with_reducible apply runO_go); simp only [go_sem, *])
    | ((with_reducible apply run_ret Try.func21 res21 (H' := H)); (focus (simp only [go_sem, *]; rfl)); (focus trivial); (focus (repeat (first | assumption | exact Heap.sub_refl _ | refine Heap.sub_congr ?_ | refine Heap.sub_set ?_ (by assumption) | refine Heap.sub_set2 ?_ (by first | assumption | (simp only [*]; done) | (simp only [Heap.set_none', stH_none, ne_eq, *, not_false_eq_true, and_self]; done)))))))
  exact ⟨rfl, rfl⟩
theorem hand_some (W : World) (H : Heap) (l : TLo) (t : Tr) (h : AtT H l t) (k : Ky) (hk : okS k) (o : Int) {x : Nt} (hx : t.fnd k = some x) :
    CallA Try.prog W 21 [pT l, dS k, .v (.int .i64 o)] H fun r H' => r = .v (.int .i64 0) ∧ H' = H.set x.b (.cells (ndC { x.n with ow := o }) 98) := by
  refine call_in Try.func21 rfl Try.ntmps21 (by simp) ?_
  have c1 := find_some W h hk hx
  have hn := h.node hx
  repeat' (first
    | (with_reducible apply run_seq)
    | (with_reducible apply run_block)
    | (with_reducible apply run_inBlock)
    | (with_reducible apply run_skip)
    | ((with_reducible apply run_go); simp only [go_sem, *])
    | ((with_reducible apply run_cond_f); (focus (simp only [go_sem, *]; done)))
    | ((with_reducible apply runO_store); (focus (simp only [go_sem]; rfl)); (focus (simp only [go_sem, *]; rfl)); (focus (simp only [go_sem, *]; rfl)); (focus (simp only [go_sem, *]; done)); (focus (simp only [go_sem, *]; done)); (focus (simp only [go_sem, *]; done)); (with_reducible apply runO_go); simp only [go_sem, *, Heap.set_set])
    | ((with_reducible apply runO_callF known39); simp only [go_sem, *]; refine (c1).use ?_; (with_reducible apply runO_go); simp only [go_sem, *])
    | ((with_reducible apply run_ret Try.func21 res21 (H' := H.set x.b (.cells (ndC { x.n with ow := o }) 98))); (focus (simp only [go_sem, *]; rfl)); (focus trivial); (focus (repeat (first | assumption | exact Heap.sub_refl _ | refine Heap.sub_congr ?_ | refine Heap.sub_set ?_ (by assumption) | refine Heap.sub_set2 ?_ (by first | assumption | (simp only [*]; done) | (simp only [Heap.set_none', stH_none, ne_eq, *, not_false_eq_true, and_self]; done)))))))
  exact ⟨rfl, rfl⟩

/-- Whom a mark adds. -/
def Tr.mkd (t : Tr) (k : Ky) (n : Nd) (s : BitVec 8) : Nd := { n with td := n.td ||| (s &&& ofB (t.at k).2.2.all) }
theorem mark_none (W : World) (H : Heap) (l : TLo) (t : Tr) (h : AtT H l t) (k : Ky) (hk : okS k) (s : BitVec 8) (hx : t.fnd k = none) :
    CallA Try.prog W 15 [pT l, dS k, .v (.int .u8 (s.toNat : Int))] H fun r H' => r = .v (.int .i64 6) ∧ H' = H := by
  refine call_in Try.func15 rfl Try.ntmps15 (by simp) ?_
  have c1 := find_none W h hk hx
  repeat' (first
    | (with_reducible apply run_seq)
    | (with_reducible apply run_block)
    | ((with_reducible apply run_go); simp only [go_sem, *])
    | ((with_reducible apply run_cond_t); (focus (simp only [go_sem, *]; done)))
    | ((with_reducible apply run_cond_f); (focus (simp only [go_sem, *]; done)))
    | ((with_reducible apply runO_callF known39); simp only [go_sem, *]; refine (c1).use ?_; (with_reducible apply runO_go); simp only [go_sem, *])
    | ((with_reducible apply run_ret Try.func15 res15 (H' := H)); (focus (simp only [go_sem, *]; rfl)); (focus trivial); (focus (repeat (first | assumption | exact Heap.sub_refl _ | refine Heap.sub_congr ?_ | refine Heap.sub_set ?_ (by assumption) | refine Heap.sub_set2 ?_ (by first | assumption | (simp only [*]; done) | (simp only [Heap.set_none', stH_none, ne_eq, *, not_false_eq_true, and_self]; done)))))))
  exact ⟨rfl, rfl⟩
theorem OkT.st {t : Tr} (h : OkT t) (k : Ky) : OkSt (t.at k).2.2 ∧ (t.at k).2.2.p = t.p := by
  have := ok_rpl (rowK k) (okN_ok h.ok)
  exact ⟨this.1, this.2⟩
set_option maxHeartbeats 4000000 in
theorem mark_some (W : World) (H : Heap) (l : TLo) (t : Tr) (h : AtT H l t) (ho : OkT t) (k : Ky) (hk : okS k) (s : BitVec 8) {x : Nt} (hx : t.fnd k = some x) (he : (t.at k).1 = 0) :
    CallA Try.prog W 15 [pT l, dS k, .v (.int .u8 (s.toNat : Int))] H fun r H' => r = .v (.int .i64 0) ∧ H' = H.set x.b (.cells (ndC (t.mkd k x.n s)) 98) := by
  refine call_in Try.func15 rfl Try.ntmps15 (by simp) ?_
  have c1 := find_some W h hk hx
  have hn := h.node hx
  repeat' (first
    | (with_reducible apply run_seq)
    | (with_reducible apply run_block)
    | (with_reducible apply run_inBlock)
    | (with_reducible apply run_skip)
    | ((with_reducible apply run_go); simp only [go_sem, *])
    | ((with_reducible apply run_cond_f); (focus (simp only [go_sem, *]; done)))
    | ((with_reducible apply runO_callF known39); simp only [go_sem, *]; refine (c1).use ?_; (with_reducible apply runO_go); simp only [go_sem, *]))
  (with_reducible apply runO_callF known24); simp only [go_sem, *]
  refine (at_call W H l t h ho k hk).mono (fun d1 H1 hh => ?_)
  rcases hh with ⟨h0, _⟩ | ⟨_, lo, hlb, hlc, hne, hcap, rfl, rfl⟩
  · exact absurd he h0
  obtain ⟨hs, hsp⟩ := ho.st k
  have hcap2 : (t.at k).2.2.ts.length ≤ lo.cap := by rw [hs.len, hsp]; exact hcap
  have hat : AtP (stP H lo (t.at k).2.2) lo (t.at k).2.2 := stH_at hne hcap2
  have hsub : H.sub (stP H lo (t.at k).2.2) := stH_subH hlb hlc
  have hn2 := hsub _ _ hn
  unfold Tr.mkd
  generalize (t.at k).2.2 = st at *
  have hal := allK_len st st.ts.length
  rw [← all_eq] at hal
  have hl4 := (ok_len hs).1
  have c2 := mAll_call W (stP H lo st) lo st hat hs
  have c3 := fun H => setOf_call W H st.all (by omega)
  have c4 := fun H => setUnion_call W H x.n.td (s &&& ofB st.all)
  have HX : Hid _ := hx
  clear hx c1 h he
  generalize stP H lo st = K at *
  (with_reducible apply runO_go); simp only [go_sem, *]
  repeat' (first
    | (with_reducible apply run_seq)
    | ((with_reducible apply run_go); simp only [go_sem, *])
    | ((with_reducible apply run_drawGo Cl.zero Cl.zero_plain mixed); (focus kernel_rfl); simp only [go_sem, *])
    | ((with_reducible apply runD_store); (focus (simp only [go_sem]; rfl)); (focus (simp only [go_sem, *]; rfl)); (focus (simp only [go_sem, *]; rfl)); (focus (simp only [go_sem, *]; done)); (focus (simp only [go_sem, *]; done)); (focus (simp only [go_sem, *]; done)); (focus (first | rfl | (simp only [go_sem, *]; done))); (with_reducible first | apply runD_go Cl.zero_plain | apply runD_goC); simp only [go_sem, *, Heap.set_set])
    | ((with_reducible apply runD_callF known31); (focus rfl); (focus (simp only [go_sem, *]; exact c2)); (with_reducible first | apply runD_go Cl.zero_plain | apply runD_goC); simp only [go_sem, *])
    | ((with_reducible apply runD_callF known35); (focus rfl); (focus (simp only [go_sem, *]; exact c3 _)); (with_reducible first | apply runD_go Cl.zero_plain | apply runD_goC); simp only [go_sem, *])
    | ((with_reducible apply runD_callF known41); (focus rfl); (focus (simp only [go_sem, *]; exact c4 _)); (with_reducible first | apply runD_go Cl.zero_plain | apply runD_goC); simp only [go_sem, *])
    | ((with_reducible apply run_ret Try.func15 res15 (H' := H.set x.b (.cells (ndC { x.n with td := x.n.td ||| (s &&& ofB st.all) }) 98))); (focus (simp only [go_sem, *]; rfl)); (focus trivial); (focus (repeat (first | assumption | exact Heap.sub_refl _ | refine Heap.sub_congr ?_ | refine Heap.sub_set ?_ (by assumption) | refine Heap.sub_set2 ?_ (by first | assumption | (simp only [*]; done) | (simp only [Heap.set_none', stH_none, ne_eq, *, not_false_eq_true, and_self]; done)))))))
  exact ⟨rfl, rfl⟩
end Go.Proofs.Ytcfeklnmampndaa
