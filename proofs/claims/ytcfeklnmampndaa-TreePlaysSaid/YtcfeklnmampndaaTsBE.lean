/-
  Several texts in one: TsB, TsC, TsD, TsE.
-/
import Derived.Test.YtcfeklnmampndaaTsA
import Derived.Test.YtcfeklnmampndaaSlC
import Derived.Test.YtcfeklnmampndaaTrD
import Derived.Test.YtcfeklnmampndaaSlB
set_option linter.unusedSimpArgs false
set_option linter.unusedVariables false
namespace Go.Proofs.Ytcfeklnmampndaa
open Go Go.Sn Go.RowKit
-- NONE stH_none

/-- A node of the document's. -/
structure DN where
  k : Ky
  b : Nat
  ow : Int
  sl : List Int
  td : List Int
  dn : List Int
  tD : D
  dD : D
def dnC (x : DN) : List D := [.v (.string (strL x.k)), .v (.int .i64 x.ow), .list (intsC x.sl), x.tD, x.dD]
/-- A gathered list that lies in a cell. -/
def RowD (H : Heap) (e : Nat) (xs : List (List D)) (d : D) : Prop := (d = .nil ∧ xs = []) ∨ ∃ b cap, d = .own b cap xs ∧ H b = some (.grow e xs.length cap 1)
theorem RowD.flat {H : Heap} {e : Nat} {xs : List (List D)} {d : D} (h : RowD H e xs d) : d.flat = .list xs := by
  rcases h with ⟨rfl, rfl⟩ | ⟨b, cap, rfl, _⟩ <;> rfl
theorem RowD.mono {H H' : Heap} {e : Nat} {xs : List (List D)} {d : D} (h : RowD H e xs d) (hs : H.sub H') : RowD H' e xs d := by
  rcases h with ⟨rfl, rfl⟩ | ⟨b, cap, rfl, h⟩
  · exact .inl ⟨rfl, rfl⟩
  · exact .inr ⟨b, cap, rfl, hs _ _ h⟩
theorem RowD.stor {H : Heap} {e : Nat} {xs : List (List D)} {d : D} (h : RowD H e xs d) : d.stor = true ∧ d.cells = [d] ∧ d.one = true := by
  rcases h with ⟨rfl, rfl⟩ | ⟨b, cap, rfl, h⟩ <;> exact ⟨rfl, rfl, rfl⟩
structure DT where
  lo : Lo
  s0 : St
  N : List DN
  nD : D
  cl : Int
instance : Inhabited DN := ⟨⟨[], 0, 0, [], [], [], .nil, .nil⟩⟩
def ptrsC (N : List DN) : List (List D) := N.map fun x => [.v (.pointer (some ⟨x.b, 0, none⟩))]
@[go_sem] theorem ptrsC_length (l : List DN) : (ptrsC l).length = l.length := by simp [ptrsC]
@[go_sem] theorem ptrsC_get (l : List DN) (n : Nat) (h : n < l.length) : (ptrsC l).getD n [] = [.v (.pointer (some ⟨(l.getD n default).b, 0, none⟩))] := by simp [ptrsC, List.getD, h]
theorem ptrsC_all (l : List DN) : ∀ ds ∈ ptrsC l, ds.length = 1 := by intro ds h; simp only [ptrsC, List.mem_map] at h; obtain ⟨n, _, rfl⟩ := h; rfl
structure AtD (H : Heap) (b : Nat) (t : DT) : Prop where
  hb : H b = some (.cells [.v (.pointer (some ⟨t.lo.b, 0, none⟩)), t.nD, .v (.int .i64 t.cl)] 38)
  hr : AtR H t.lo t.s0
  hs : OkSt t.s0
  hN : RowD H 55 (ptrsC t.N) t.nD
  hn : ∀ x ∈ t.N, H x.b = some (.cells (dnC x) 58)
  ht : ∀ x ∈ t.N, RowD H 3 (intsC x.td) x.tD
  hd : ∀ x ∈ t.N, RowD H 3 (intsC x.dn) x.dD
theorem AtD.mono {H H' : Heap} {b : Nat} {t : DT} (h : AtD H b t) (hs : H.sub H') : AtD H' b t :=
  ⟨hs _ _ h.hb, h.hr.mono hs, h.hs, h.hN.mono hs, fun x hx => hs _ _ (h.hn x hx), fun x hx => (h.ht x hx).mono hs, fun x hx => (h.hd x hx).mono hs⟩
def DT.fnd (t : DT) (k : Ky) : Option DN := t.N.find? fun x => decide (x.k = k)
theorem dfnd_mem {t : DT} {k : Ky} {x : DN} (h : t.fnd k = some x) : x ∈ t.N ∧ x.k = k :=
  ⟨List.mem_of_find?_eq_some h, by have := List.find?_some h; simpa using this⟩
def pD (o : Option DN) : D := .v (.pointer (o.map fun x => ⟨x.b, 0, none⟩))
abbrev pB (b : Nat) : D := .v (.pointer (some ⟨b, 0, none⟩))

theorem find?_take_none {α : Type} [Inhabited α] {p : α → Bool} {l : List α} {j : Nat} (hj : j < l.length) (h : (l.take j).all (fun x => !p x) = true) (hp : p (l.getD j default) = true) : l.find? p = some (l.getD j default) := by
  have e : l.find? p = (l.take j ++ l.drop j).find? p := by rw [List.take_append_drop]
  have h0 : (l.take j).find? p = none := by
    rw [List.find?_eq_none]
    intro x hx
    have := List.all_eq_true.1 h x hx
    simpa using this
  have hd : l.drop j = l.getD j default :: l.drop (j + 1) := drop_cons_getD hj
  rw [e, List.find?_append, h0, hd]
  simp only [Option.none_or, List.find?_cons, hp]
theorem find?_all_none {α : Type} {p : α → Bool} {l : List α} (h : l.all (fun x => !p x) = true) : l.find? p = none := by
  rw [List.find?_eq_none]
  intro x hx
  have := List.all_eq_true.1 h x hx
  simpa using this

set_option maxHeartbeats 4000000 in
theorem dFind_call (W : World) (H : Heap) (b : Nat) (t : DT) (h : AtD H b t) (hN : t.N.length ≤ 1000000) (k : Ky) :
    CallA Try.prog W 22 [pB b, dS k] H fun r H' => r = pD (t.fnd k) ∧ H' = H := by
  refine call_in Try.func22 rfl Try.ntmps22 (by simp) ?_
  have hb := h.hb
  have hn := h.hn
  unfold DT.fnd
  obtain ⟨lo, s0, N, nD, cl⟩ := t
  have hRow := h.hN
  simp only at hb hRow hN hn ⊢
  rcases hRow with ⟨rfl, hxs⟩ | ⟨bb, cap, rfl, hg⟩
  · have h00 : N = [] := by
      have := congrArg List.length hxs
      rw [ptrsC_length] at this
      exact List.length_eq_zero_iff.1 this
    subst h00
    clear hn h hxs
    repeat' (first
    | (with_reducible apply run_seq)
    | (with_reducible apply run_block)
    | ((with_reducible apply run_go); simp only [go_sem, *]))
    refine run_loop1 ?_
    repeat' (first
    | (with_reducible apply run_seq)
    | (with_reducible apply run_exit rfl)
    | ((with_reducible apply run_go); simp only [go_sem, *])
    | ((with_reducible apply run_cond_f); (focus (simp only [go_sem, *]; done)))
    | ((with_reducible apply run_ret Try.func22 res22 (H' := H)); (focus (simp only [go_sem, *]; rfl)); (focus trivial); (focus (repeat (first | assumption | exact Heap.sub_refl _ | refine Heap.sub_congr ?_ | refine Heap.sub_set ?_ (by assumption) | refine Heap.sub_set2 ?_ (by first | assumption | (simp only [*]; done) | (simp only [Heap.set_none', stH_none, ne_eq, *, not_false_eq_true, and_self]; done)))))))
    exact ⟨rfl, rfl⟩
  · clear hg h
    repeat' (first
    | (with_reducible apply run_seq)
    | (with_reducible apply run_block)
    | ((with_reducible apply run_go); simp only [go_sem, *]))
    refine run_loop (fun na ea Ha => ∃ (j : Nat), j ≤ N.length ∧ na = N.length - j ∧ ((N.take j).all (fun x => !decide (x.k = k)) = true) ∧ ea 0 = pB b ∧ ea 1 = dS k ∧ ea 5 = .v (.int .i64 (j : Int)) ∧ H = Ha) (N.length)
        ⟨0, Nat.zero_le _, rfl, (by simp), (by simp only [go_sem, *]), (by simp only [go_sem, *]), (by simp only [go_sem] <;> rfl), rfl⟩ ?_
    rintro na ea Ha ih ⟨j, ak, rfl, va0, as0, as1, as5, rfl⟩
    have IHa : Hid _ := ih
    clear ih
    have Ia0 : Hid _ := va0
    clear va0
    by_cases hlt : j < N.length
    · have hw := wrap_succ (k := j) (by omega)
      have hx := hn (N.getD j default) (by simp [List.getD, hlt])
      unfold dnC at hx
      by_cases hk : (N.getD j default).k = k
      · have hf : N.find? (fun x => decide (x.k = k)) = some (N.getD j default) := find?_take_none hlt Ia0.out (by simpa using hk)
        rw [hf]
        clear hf hn
        generalize hxd : N.getD j default = x at *
        subst hk
        repeat' (first
    | (with_reducible apply run_seq)
    | (with_reducible apply run_block)
    | (with_reducible apply run_skip)
    | ((with_reducible apply run_go); simp only [go_sem, *])
    | ((with_reducible apply run_cond_t); (focus (simp only [go_sem, *]; done)))
    | ((with_reducible apply run_ret Try.func22 res22 (H' := H)); (focus (simp only [go_sem, *]; rfl)); (focus trivial); (focus (repeat (first | assumption | exact Heap.sub_refl _ | refine Heap.sub_congr ?_ | refine Heap.sub_set ?_ (by assumption) | refine Heap.sub_set2 ?_ (by first | assumption | (simp only [*]; done) | (simp only [Heap.set_none', stH_none, ne_eq, *, not_false_eq_true, and_self]; done)))))))
        exact ⟨rfl, rfl⟩
      · have ht := all_take_succG (p := fun x : DN => !decide (x.k = k)) hlt Ia0.out (by simpa using hk)
        have HT : Hid _ := ht
        clear ht hn
        generalize hxd : N.getD j default = x at *
        repeat' (first
    | (with_reducible apply run_seq)
    | (with_reducible apply run_block)
    | (with_reducible apply run_inBlock)
    | (with_reducible apply run_skip)
    | ((with_reducible apply run_go); simp only [go_sem, *])
    | ((with_reducible apply run_cond_t); (focus (simp only [go_sem, *]; done)))
    | ((with_reducible apply run_cond_f); (focus (simp only [go_sem, *]; done))))
        refine IHa.out (N.length - (j + 1)) _ _ (by omega) ⟨j + 1, by omega, rfl, HT.out, (by simp only [go_sem, *]), (by simp only [go_sem, *]), (by simp only [go_sem, *]), rfl⟩
    · obtain rfl : j = N.length := by omega
      have ha := Ia0.out
      rw [List.take_length] at ha
      rw [find?_all_none ha]
      clear ha hn
      repeat' (first
    | (with_reducible apply run_seq)
    | (with_reducible apply run_exit rfl)
    | ((with_reducible apply run_go); simp only [go_sem, *])
    | ((with_reducible apply run_cond_f); (focus (simp only [go_sem, *]; done)))
    | ((with_reducible apply run_ret Try.func22 res22 (H' := H)); (focus (simp only [go_sem, *]; rfl)); (focus trivial); (focus (repeat (first | assumption | exact Heap.sub_refl _ | refine Heap.sub_congr ?_ | refine Heap.sub_set ?_ (by assumption) | refine Heap.sub_set2 ?_ (by first | assumption | (simp only [*]; done) | (simp only [Heap.set_none', stH_none, ne_eq, *, not_false_eq_true, and_self]; done)))))))
      exact ⟨rfl, rfl⟩

/-- Who is left, below a bound. -/
def leftD (x : DN) (n : Nat) : List Int := ((List.range n).filter fun j : Nat => decide ((j : Int) ∈ x.td) && !decide ((j : Int) ∈ x.dn) && !decide ((j : Int) ∈ x.sl)).map fun j : Nat => (j : Int)
theorem leftD_succ (x : DN) (n : Nat) : leftD x (n + 1) = if (decide ((n : Int) ∈ x.td) && !decide ((n : Int) ∈ x.dn) && !decide ((n : Int) ∈ x.sl)) then leftD x n ++ [(n : Int)] else leftD x n := by
  unfold leftD
  rw [List.range_succ, List.filter_append, List.map_append]
  cases h : (decide ((n : Int) ∈ x.td) && !decide ((n : Int) ∈ x.dn) && !decide ((n : Int) ∈ x.sl)) <;> simp [h]
theorem leftD_len (x : DN) (n : Nat) : (leftD x n).length ≤ n := by
  unfold leftD
  rw [List.length_map]
  have := List.length_filter_le (fun j : Nat => decide ((j : Int) ∈ x.td) && !decide ((j : Int) ∈ x.dn) && !decide ((j : Int) ∈ x.sl)) (List.range n)
  rwa [List.length_range] at this
structure LenD (x : DN) : Prop where
  sl : x.sl.length ≤ 1000000
  td : x.td.length ≤ 1000000
  dn : x.dn.length ≤ 1000000
set_option maxHeartbeats 4000000 in
theorem dLeft_call (W : World) (H : Heap) (x : DN) (hx : H x.b = some (.cells (dnC x) 58)) (ht : RowD H 3 (intsC x.td) x.tD) (hd : RowD H 3 (intsC x.dn) x.dD) (hl : LenD x) :
    CallA Try.prog W 23 [pB x.b] H fun r H' => r = .list (intsC (leftD x 8)) ∧ H' = H := by
  refine call_in Try.func23 rfl Try.ntmps23 (by simp) ?_
  have ft := ht.flat
  have fd := hd.flat
  unfold dnC at hx
  have c1 := fun H (j : Nat) => in_call W H x.td (j : Int) hl.td
  have c2 := fun H (j : Nat) => in_call W H x.dn (j : Int) hl.dn
  have c3 := fun H (j : Nat) => in_call W H x.sl (j : Int) hl.sl
  clear ht hd
  repeat' (first
    | (with_reducible apply run_seq)
    | (with_reducible apply run_block)
    | ((with_reducible apply run_go); simp only [go_sem, *]))
  refine run_loop (fun na ea Ha => ∃ (j : Nat), j ≤ 8 ∧ na = 8 - j ∧ ea 0 = pB x.b ∧ ea 4 = .v (.int .i64 (j : Int)) ∧ Coll (H) (3) (1) (intsC (leftD x j)) (ea 3) Ha) (8)
      ⟨0, Nat.zero_le _, rfl, (by simp only [go_sem, *]), (by simp only [go_sem] <;> rfl), (by simp only [go_sem]; exact .none rfl)⟩ ?_
  rintro na ea Ha ih ⟨j, ak, rfl, as0, as4, ca⟩
  generalize hac : ea 3 = da at ca
  have IHa : Hid _ := ih
  clear ih
  have hsub := ca.sub
  have hfl := ca.flat
  have hxa := hsub _ _ hx
  by_cases hlt : j < 8
  · have hw := wrap_succ (k := j) (by omega)
    have hlt' : (j : Int) < 8 := by omega
    have hrl := leftD_len x j
    have hsu := leftD_succ x j
    have HSU : Hid _ := hsu
    clear hsu
    have d1 := fun H => c1 H j
    have d2 := fun H => c2 H j
    have d3 := fun H => c3 H j
    cases h1 : decide ((j : Int) ∈ x.td) with
    | false =>
      rw [h1] at d1
      have HL : Hid (leftD x (j + 1) = leftD x j) := by show _ = _; rw [HSU.out, h1]; rfl
      clear HSU d2 d3 c1 c2 c3 h1
      repeat' (first
    | (with_reducible apply run_seq)
    | (with_reducible apply run_block)
    | (with_reducible apply run_inBlock)
    | (with_reducible apply run_skip)
    | ((with_reducible apply run_go); simp only [go_sem, *])
    | ((with_reducible apply run_cond_t); (focus (simp only [go_sem, *]; done)))
    | ((with_reducible apply run_cond_f); (focus (simp only [go_sem, *]; done)))
    | ((with_reducible apply runO_skipF); (focus (simp only [go_sem, *]; rfl)); (focus rfl); (with_reducible apply runO_go); simp only [go_sem, *])
    | ((with_reducible apply runO_callF known40); simp only [go_sem, *]; refine (d1 _).use ?_; (with_reducible apply runO_go); simp only [go_sem, *]))
      refine IHa.out (8 - (j + 1)) _ _ (by omega) ⟨j + 1, by omega, rfl, (by simp only [go_sem, *]), (by simp only [go_sem, *]), ?_⟩
      rw [HL.out]
      simp only [go_sem, *]
    | true =>
      rw [h1] at d1
      cases h2 : decide ((j : Int) ∈ x.dn) with
      | true =>
        rw [h2] at d2
        have HL : Hid (leftD x (j + 1) = leftD x j) := by show _ = _; rw [HSU.out, h1, h2]; rfl
        clear HSU d3 c1 c2 c3 h1 h2
        repeat' (first
    | (with_reducible apply run_seq)
    | (with_reducible apply run_block)
    | (with_reducible apply run_inBlock)
    | (with_reducible apply run_skip)
    | ((with_reducible apply run_go); simp only [go_sem, *])
    | ((with_reducible apply run_cond_t); (focus (simp only [go_sem, *]; done)))
    | ((with_reducible apply run_cond_f); (focus (simp only [go_sem, *]; done)))
    | ((with_reducible apply runO_skipF); (focus (simp only [go_sem, *]; rfl)); (focus rfl); (with_reducible apply runO_go); simp only [go_sem, *])
    | ((with_reducible apply runO_callF known40); simp only [go_sem, *]; refine (d1 _).use ?_; (with_reducible apply runO_go); simp only [go_sem, *])
    | ((with_reducible apply runO_callFG known40); (focus (simp only [go_sem, *]; rfl)); (focus (intro _; simp only [go_sem, *]; exact d2 _)); (with_reducible apply runO_go); simp only [go_sem, *]))
        refine IHa.out (8 - (j + 1)) _ _ (by omega) ⟨j + 1, by omega, rfl, (by simp only [go_sem, *]), (by simp only [go_sem, *]), ?_⟩
        rw [HL.out]
        simp only [go_sem, *]
      | false =>
        rw [h2] at d2
        cases h3 : decide ((j : Int) ∈ x.sl) with
        | true =>
          rw [h3] at d3
          have HL : Hid (leftD x (j + 1) = leftD x j) := by show _ = _; rw [HSU.out, h1, h2, h3]; rfl
          clear HSU c1 c2 c3 h1 h2 h3
          repeat' (first
    | (with_reducible apply run_seq)
    | (with_reducible apply run_block)
    | (with_reducible apply run_inBlock)
    | (with_reducible apply run_skip)
    | ((with_reducible apply run_go); simp only [go_sem, *])
    | ((with_reducible apply run_cond_t); (focus (simp only [go_sem, *]; done)))
    | ((with_reducible apply run_cond_f); (focus (simp only [go_sem, *]; done)))
    | ((with_reducible apply runO_callF known40); simp only [go_sem, *]; refine (d1 _).use ?_; (with_reducible apply runO_go); simp only [go_sem, *])
    | ((with_reducible apply runO_callFG known40); (focus (simp only [go_sem, *]; rfl)); (focus (intro _; simp only [go_sem, *]; exact d2 _)); (with_reducible apply runO_go); simp only [go_sem, *])
    | ((with_reducible apply runO_callFG known40); (focus (simp only [go_sem, *]; rfl)); (focus (intro _; simp only [go_sem, *]; exact d3 _)); (with_reducible apply runO_go); simp only [go_sem, *]))
          refine IHa.out (8 - (j + 1)) _ _ (by omega) ⟨j + 1, by omega, rfl, (by simp only [go_sem, *]), (by simp only [go_sem, *]), ?_⟩
          rw [HL.out]
          simp only [go_sem, *]
        | false =>
          rw [h3] at d3
          have HL : Hid (leftD x (j + 1) = leftD x j ++ [(j : Int)]) := by show _ = _; rw [HSU.out, h1, h2, h3]; rfl
          clear HSU c1 c2 c3 h1 h2 h3
          repeat' (first
    | (with_reducible apply run_seq)
    | (with_reducible apply run_block)
    | (with_reducible apply run_skip)
    | ((with_reducible apply run_go); simp only [go_sem, *])
    | ((with_reducible apply run_cond_t); (focus (simp only [go_sem, *]; done)))
    | ((with_reducible apply runO_callF known40); simp only [go_sem, *]; refine (d1 _).use ?_; (with_reducible apply runO_go); simp only [go_sem, *])
    | ((with_reducible apply runO_callFG known40); (focus (simp only [go_sem, *]; rfl)); (focus (intro _; simp only [go_sem, *]; exact d2 _)); (with_reducible apply runO_go); simp only [go_sem, *])
    | ((with_reducible apply runO_callFG known40); (focus (simp only [go_sem, *]; rfl)); (focus (intro _; simp only [go_sem, *]; exact d3 _)); (with_reducible apply runO_go); simp only [go_sem, *])
    | ((with_reducible apply runO_buildSlice); (focus (simp only [go_sem]; rfl)); (focus (simp only [go_sem]; rfl)); (focus (simp only [go_sem]; rfl)); (focus rfl); (focus rfl); (focus (simp only [go_sem, *]; done)); (focus (simp only [go_sem, *]; done)); (focus decide); (with_reducible apply runO_go); simp only [go_sem, *]))
          (refine runO_coll (t := 41) Try.underlying41 sz3 by3 zr3 rfl (by simp only [go_sem, *]; exact ca) (by simp only [go_sem, *]; rfl) (intsC_all _) (by simp) (by (try simp only [List.length_range, List.length_map, List.length_take, List.length_cons, List.length_nil, List.length_append, go_sem]); omega) (by (try simp only [maxLen, List.length_range, List.length_map, List.length_take, List.length_cons, List.length_nil, List.length_append, go_sem]); omega) (fun d1 H1 hc1 => ?_); (with_reducible apply runO_go); simp only [go_sem, *])
          repeat' (first
    | (with_reducible apply run_inBlock)
    | ((with_reducible apply run_go); simp only [go_sem, *]))
          refine IHa.out (8 - (j + 1)) _ _ (by omega) ⟨j + 1, by omega, rfl, (by simp only [go_sem, *]), (by simp only [go_sem, *]), ?_⟩
          simp only [go_sem]
          rw [HL.out, intsC_snoc]
          exact hc1
  · obtain rfl : j = 8 := by omega
    clear c1 c2 c3
    repeat' (first
    | (with_reducible apply run_seq)
    | (with_reducible apply run_exit rfl)
    | ((with_reducible apply run_go); simp only [go_sem, *])
    | ((with_reducible apply run_cond_f); (focus (simp only [go_sem, *]; done)))
    | ((with_reducible apply run_ret Try.func23 res23 (H' := H)); (focus (simp only [go_sem, *]; rfl)); (focus trivial); (focus (repeat (first | assumption | exact Heap.sub_refl _ | refine Heap.sub_congr ?_ | refine Heap.sub_set ?_ (by assumption) | refine Heap.sub_set2 ?_ (by first | assumption | (simp only [*]; done) | (simp only [Heap.set_none', stH_none, ne_eq, *, not_false_eq_true, and_self]; done)))))))
    exact ⟨rfl, rfl⟩
end Go.Proofs.Ytcfeklnmampndaa
set_option linter.unusedSimpArgs false
set_option linter.unusedVariables false
namespace Go.Proofs.Ytcfeklnmampndaa
open Go Go.Sn Go.RowKit
-- NONE stH_none

def rb : D → List Nat
  | .own b _ _ => [b]
  | _ => []
/-- A node's blocks. -/
def fp (x : DN) : List Nat := x.b :: (rb x.tD ++ rb x.dD)
/-- A tree's blocks. -/
def dbs (b : Nat) (t : DT) : List Nat := ([b, t.lo.b, t.lo.c] ++ rb t.nD) ++ t.N.flatMap fp
structure AtDF (Ho H : Heap) (b : Nat) (t : DT) : Prop where
  ht : AtD H b t
  sub : Ho.sub H
  no : ∀ q ∈ dbs b t, Ho q = none
  nd : (dbs b t).Nodup
  kd : (t.N.map (·.k)).Nodup
theorem RowD.blk {H : Heap} {e : Nat} {xs : List (List D)} {d : D} (h : RowD H e xs d) : ∀ q ∈ rb d, (H q).isSome = true := by
  rcases h with ⟨rfl, rfl⟩ | ⟨b, cap, rfl, h⟩
  · intro q hq; cases hq
  · intro q hq
    simp only [rb, List.mem_singleton] at hq
    rw [hq, h]; rfl
theorem AtD.blk {H : Heap} {b : Nat} {t : DT} (h : AtD H b t) : ∀ q ∈ dbs b t, (H q).isSome = true := by
  intro q hq
  unfold dbs at hq
  rcases List.mem_append.1 hq with hq | hq
  · rcases List.mem_append.1 hq with hq | hq
    · simp only [List.mem_cons, List.not_mem_nil, or_false] at hq
      rcases hq with rfl | rfl | rfl
      · rw [h.hb]; rfl
      · rw [h.hr.hb]; rfl
      · rw [h.hr.hc]; rfl
    · exact h.hN.blk q hq
  · obtain ⟨x, hx, hq⟩ := List.mem_flatMap.1 hq
    unfold fp at hq
    rcases List.mem_cons.1 hq with rfl | hq
    · rw [h.hn x hx]; rfl
    · rcases List.mem_append.1 hq with hq | hq
      · exact (h.ht x hx).blk q hq
      · exact (h.hd x hx).blk q hq
/-- What is in one heap is in another, outside of some blocks. -/
def keeps (H H' : Heap) (S : List Nat) : Prop := ∀ q r, q ∉ S → H q = some r → H' q = some r
theorem RowD.keep {H H' : Heap} {e : Nat} {xs : List (List D)} {d : D} (h : RowD H e xs d) {S : List Nat} (hk : keeps H H' S) (hd : ∀ q ∈ rb d, q ∉ S) : RowD H' e xs d := by
  rcases h with ⟨rfl, rfl⟩ | ⟨b, cap, rfl, h⟩
  · exact .inl ⟨rfl, rfl⟩
  · exact .inr ⟨b, cap, rfl, hk _ _ (hd b (by simp [rb])) h⟩
theorem nodup_swap {A F F' B : List Nat} (h : (A ++ (F ++ B)).Nodup) (hF : F'.Nodup) (hn : ∀ q ∈ F', q ∉ A ∧ q ∉ B) : (A ++ (F' ++ B)).Nodup := by
  rw [List.nodup_append] at h ⊢
  obtain ⟨hA, hFB, hd⟩ := h
  rw [List.nodup_append] at hFB ⊢
  obtain ⟨_, hB, _⟩ := hFB
  refine ⟨hA, ⟨hF, hB, fun a ha c hc e => (hn a ha).2 (by rw [e]; exact hc)⟩, fun a ha c hc => ?_⟩
  rcases List.mem_append.1 hc with hc | hc
  · exact fun e => (hn c hc).1 (by rw [← e]; exact ha)
  · exact hd a ha c (List.mem_append.2 (.inr hc))
/-- A node turned. -/
theorem AtDF.turn {Ho H H' : Heap} {b : Nat} {t : DT} {A B : List DN} {x x' : DN} (h : AtDF Ho H b t) (hN : t.N = A ++ x :: B) (hb : x'.b = x.b) (hk : x'.k = x.k)
    (ha : keeps H H' (fp x)) (h1 : H' x.b = some (.cells (dnC x') 58)) (h2 : RowD H' 3 (intsC x'.td) x'.tD) (h3 : RowD H' 3 (intsC x'.dn) x'.dD)
    (hf : ∀ q ∈ fp x', q ∈ fp x ∨ H q = none) (hfn : (fp x').Nodup) : AtDF Ho H' b { t with N := A ++ x' :: B } := by
  have hbs : dbs b t = (([b, t.lo.b, t.lo.c] ++ rb t.nD) ++ A.flatMap fp) ++ (fp x ++ B.flatMap fp) := by
    unfold dbs; rw [hN]; simp [List.flatMap_append]
  have hbs' : dbs b { t with N := A ++ x' :: B } = (([b, t.lo.b, t.lo.c] ++ rb t.nD) ++ A.flatMap fp) ++ (fp x' ++ B.flatMap fp) := by
    unfold dbs; simp [List.flatMap_append]
  have hnd := h.nd
  rw [hbs] at hnd
  have hnd2 := List.nodup_append.1 hnd
  have hnd3 := List.nodup_append.1 hnd2.2.1
  have outL : ∀ q, q ∈ ([b, t.lo.b, t.lo.c] ++ rb t.nD) ++ A.flatMap fp → q ∉ fp x := fun q hq hx => hnd2.2.2 q hq q (List.mem_append.2 (.inl hx)) rfl
  have outR : ∀ q, q ∈ B.flatMap fp → q ∉ fp x := fun q hq hx => hnd3.2.2 q hx q hq rfl
  have hsome := h.ht.blk
  rw [hbs] at hsome
  have hnA : ∀ y ∈ A, ∀ q ∈ fp y, q ∉ fp x := fun y hy q hq => outL q (List.mem_append.2 (.inr (List.mem_flatMap.2 ⟨y, hy, hq⟩)))
  have hnB : ∀ y ∈ B, ∀ q ∈ fp y, q ∉ fp x := fun y hy q hq => outR q (List.mem_flatMap.2 ⟨y, hy, hq⟩)
  have hno : ∀ q, H q = none → Ho q = none := fun q hq => by
    cases hx : Ho q with
    | none => rfl
    | some r => rw [h.sub _ _ hx] at hq; cases hq
  have mem : ∀ y, y ∈ A ++ x' :: B → y = x' ∨ (y ∈ t.N ∧ ∀ q ∈ fp y, q ∉ fp x) := fun y hy => by
    rcases List.mem_append.1 hy with hy | hy
    · exact .inr ⟨by rw [hN]; exact List.mem_append.2 (.inl hy), hnA y hy⟩
    · rcases List.mem_cons.1 hy with rfl | hy
      · exact .inl rfl
      · exact .inr ⟨by rw [hN]; exact List.mem_append.2 (.inr (List.mem_cons_of_mem _ hy)), hnB y hy⟩
  refine ⟨⟨?_, ⟨?_, ?_, h.ht.hr.ne, h.ht.hr.cap⟩, h.ht.hs, ?_, fun y hy => ?_, fun y hy => ?_, fun y hy => ?_⟩, fun q r hq => ?_, fun q hq => ?_, ?_, ?_⟩
  · exact ha _ _ (outL b (by simp)) h.ht.hb
  · exact ha _ _ (outL t.lo.b (by simp)) h.ht.hr.hb
  · exact ha _ _ (outL t.lo.c (by simp)) h.ht.hr.hc
  · have hp : ptrsC (A ++ x' :: B) = ptrsC t.N := by rw [hN]; simp [ptrsC, hb]
    rw [hp]
    exact h.ht.hN.keep ha fun q hq => outL q (by simp [hq])
  · rcases mem y hy with rfl | ⟨h4, h5⟩
    · rw [hb]; exact h1
    · exact ha _ _ (h5 _ (by simp [fp])) (h.ht.hn y h4)
  · rcases mem y hy with rfl | ⟨h4, h5⟩
    · exact h2
    · exact (h.ht.ht y h4).keep ha fun q hq => h5 q (by simp [fp, hq])
  · rcases mem y hy with rfl | ⟨h4, h5⟩
    · exact h3
    · exact (h.ht.hd y h4).keep ha fun q hq => h5 q (by simp [fp, hq])
  · refine ha q r (fun hx => ?_) (h.sub _ _ hq)
    rw [h.no q (by rw [hbs]; exact List.mem_append.2 (.inr (List.mem_append.2 (.inl hx))))] at hq
    cases hq
  · rw [hbs'] at hq
    rcases List.mem_append.1 hq with hq | hq
    · exact h.no q (by rw [hbs]; exact List.mem_append.2 (.inl hq))
    · rcases List.mem_append.1 hq with hq | hq
      · rcases hf q hq with hx | hx
        · exact h.no q (by rw [hbs]; exact List.mem_append.2 (.inr (List.mem_append.2 (.inl hx))))
        · exact hno q hx
      · exact h.no q (by rw [hbs]; exact List.mem_append.2 (.inr (List.mem_append.2 (.inr hq))))
  · rw [hbs']
    refine nodup_swap hnd hfn fun q hq => ?_
    rcases hf q hq with hx | hx
    · exact ⟨fun hl => outL q hl hx, fun hr => outR q hr hx⟩
    · constructor
      · intro hl
        have := hsome q (List.mem_append.2 (.inl hl))
        rw [hx] at this; cases this
      · intro hr
        have := hsome q (List.mem_append.2 (.inr (List.mem_append.2 (.inr hr))))
        rw [hx] at this; cases this
  · show ((A ++ x' :: B).map (·.k)).Nodup
    have := h.kd
    rw [hN] at this
    simpa [hk] using this

/-! ### gathered lists in cells -/
theorem row_coll {H : Heap} {e : Nat} {xs : List (List D)} {d : D} (h : RowD H e xs d) : ∃ H0, Coll H0 e 1 xs d H ∧ keeps H H0 (rb d) ∧ ∀ q, H q = none → H0 q = none := by
  rcases h with ⟨rfl, rfl⟩ | ⟨b, cap, rfl, h⟩
  · exact ⟨H, .none rfl, fun q r _ hq => hq, fun q hq => hq⟩
  · refine ⟨H.del b, ?_, fun q r hq hr => ?_, fun q hq => ?_⟩
    · have hself : (H.del b).set b (.grow e xs.length cap 1) = H := by
        funext q
        rw [Heap.set_at, Heap.del_at]
        split
        · rename_i e2; subst e2; exact h.symm
        · rfl
      have := Coll.some (H0 := H.del b) (e := e) (sz := 1) (xs := xs) b cap (by rw [Heap.del_at, if_pos rfl])
      rwa [hself] at this
    · rw [Heap.del_at, if_neg (fun e2 => hq (by simp [rb, e2]))]; exact hr
    · rw [Heap.del_at]; split
      · rfl
      · exact hq
theorem coll_row {H0 H1 : Heap} {e : Nat} {xs : List (List D)} {d : D} (h : Coll H0 e 1 xs d H1) : RowD H1 e xs d ∧ H0.sub H1 ∧ ∀ q ∈ rb d, H0 q = none := by
  cases h with
  | none h => exact ⟨.inl ⟨rfl, h⟩, Heap.sub_refl _, fun q hq => by cases hq⟩
  | some b cap hb => exact ⟨.inr ⟨b, cap, rfl, Heap.set_same _ _ _⟩, Heap.sub_set (Heap.sub_refl _) hb, fun q hq => by simp only [rb, List.mem_singleton] at hq; rw [hq]; exact hb⟩
end Go.Proofs.Ytcfeklnmampndaa
set_option linter.unusedSimpArgs false
set_option linter.unusedVariables false
namespace Go.Proofs.Ytcfeklnmampndaa
open Go Go.Sn Go.RowKit
-- NONE stH_none

theorem sub_outD {H K : Heap} {b : Nat} {r : Res} (h : H.sub K) (hb : H b = none) : H.sub (K.set b r) := fun q x hq => by
  have : q ≠ b := fun e => by rw [e, hb] at hq; cases hq
  rw [Heap.set_other _ _ this]
  exact h q x hq
theorem AtDF.less {Ho H0 H : Heap} {b : Nat} {t : DT} (h : AtDF Ho H b t) (hs : H0.sub Ho) : AtDF H0 H b t :=
  ⟨h.ht, hs.trans h.sub, fun q hq => (by
    cases hx : H0 q with
    | none => rfl
    | some r => have := h.no q hq; rw [hs _ _ hx] at this; cases this), h.nd, h.kd⟩
theorem AtDF.fresh {Ho H : Heap} {b : Nat} {t : DT} (h : AtDF Ho H b t) {p : Nat} (r : Res) (hp : H p = none) : AtDF (Ho.set p r) (H.set p r) b t :=
  ⟨h.ht.mono (Heap.sub_set (Heap.sub_refl _) hp), Heap.sub_congr h.sub, fun q hq => (by
    have := h.ht.blk q hq
    rw [Heap.set_other _ _ (fun e => by rw [e, hp] at this; cases this)]
    exact h.no q hq), h.nd, h.kd⟩
theorem AtDF.none' {Ho H : Heap} {b : Nat} {t : DT} (h : AtDF Ho H b t) {q : Nat} (hq : H q = none) : Ho q = none := by
  cases hx : Ho q with
  | none => rfl
  | some r => rw [h.sub _ _ hx] at hq; cases hq
/-- The count turned. -/
theorem AtDF.count {Ho H : Heap} {b : Nat} {t : DT} (h : AtDF Ho H b t) (cl : Int) : AtDF Ho (H.set b (.cells [.v (.pointer (some ⟨t.lo.b, 0, none⟩)), t.nD, .v (.int .i64 cl)] 38)) b { t with cl := cl } := by
  have hnd := h.nd
  unfold dbs at hnd
  have hne : ∀ q, q ∈ dbs b t → q ≠ b → ∀ r, H q = some r → (H.set b (.cells [.v (.pointer (some ⟨t.lo.b, 0, none⟩)), t.nD, .v (.int .i64 cl)] 38)) q = some r := fun q _ hq r hr => by rw [Heap.set_other _ _ hq]; exact hr
  have hbn : b ∉ [t.lo.b, t.lo.c] ++ rb t.nD ++ t.N.flatMap fp := by
    have : (b :: ([t.lo.b, t.lo.c] ++ rb t.nD ++ t.N.flatMap fp)).Nodup := by simpa using hnd
    exact (List.nodup_cons.1 this).1
  have hk : keeps H (H.set b (.cells [.v (.pointer (some ⟨t.lo.b, 0, none⟩)), t.nD, .v (.int .i64 cl)] 38)) [b] := fun q r hq hr => by rw [Heap.set_other _ _ (by simpa using hq)]; exact hr
  have out : ∀ q, q ∈ [t.lo.b, t.lo.c] ++ rb t.nD ++ t.N.flatMap fp → q ∉ [b] := fun q hq e => hbn (by rw [List.mem_singleton.1 e] at hq; exact hq)
  refine ⟨⟨Heap.set_same _ _ _, ⟨hk _ _ (out _ (by simp)) h.ht.hr.hb, hk _ _ (out _ (by simp)) h.ht.hr.hc, h.ht.hr.ne, h.ht.hr.cap⟩, h.ht.hs, h.ht.hN.keep hk fun q hq => out q (by simp [hq]), fun x hx => hk _ _ (out _ ?_) (h.ht.hn x hx),
    fun x hx => (h.ht.ht x hx).keep hk fun q hq => out q ?_, fun x hx => (h.ht.hd x hx).keep hk fun q hq => out q ?_⟩, sub_outD h.sub (h.no b (by simp [dbs])), h.no, h.nd, h.kd⟩
  · exact List.mem_append.2 (.inr (List.mem_flatMap.2 ⟨x, hx, by simp [fp]⟩))
  · exact List.mem_append.2 (.inr (List.mem_flatMap.2 ⟨x, hx, by simp [fp, hq]⟩))
  · exact List.mem_append.2 (.inr (List.mem_flatMap.2 ⟨x, hx, by simp [fp, hq]⟩))
/-- A node more. -/
theorem AtDF.add {Ho H H' : Heap} {b : Nat} {t : DT} {x : DN} {nD' : D} (h : AtDF Ho H b t) (hk : keeps H H' (b :: rb t.nD)) (h1 : H' b = some (.cells [.v (.pointer (some ⟨t.lo.b, 0, none⟩)), nD', .v (.int .i64 t.cl)] 38))
    (h2 : RowD H' 55 (ptrsC (t.N ++ [x])) nD') (h3 : H' x.b = some (.cells (dnC x) 58)) (hx : H x.b = none) (hf : ∀ q ∈ rb nD', q ∈ rb t.nD ∨ H q = none) (hfn : (rb nD').Nodup) (hxn : x.b ∉ rb nD')
    (ht : x.td = [] ∧ x.tD = .nil) (hd : x.dn = [] ∧ x.dD = .nil) (hkk : ∀ y ∈ t.N, y.k ≠ x.k) : AtDF Ho H' b { t with N := t.N ++ [x], nD := nD' } := by
  have hnd := h.nd
  have hsome := h.ht.blk
  have hfx : fp x = [x.b] := by unfold fp; rw [ht.2, hd.2]; rfl
  have hbs : dbs b t = [b, t.lo.b, t.lo.c] ++ (rb t.nD ++ t.N.flatMap fp) := by unfold dbs; rw [List.append_assoc]
  have hbs' : dbs b { t with N := t.N ++ [x], nD := nD' } = ([b, t.lo.b, t.lo.c] ++ (rb nD' ++ t.N.flatMap fp)) ++ [x.b] := by
    unfold dbs
    show ([b, t.lo.b, t.lo.c] ++ rb nD') ++ (t.N ++ [x]).flatMap fp = _
    rw [List.flatMap_append]
    simp [hfx]
  rw [hbs] at hnd hsome
  have hnd2 := List.nodup_append.1 hnd
  have hnd3 := List.nodup_append.1 hnd2.2.1
  have hno : ∀ q, H q = none → Ho q = none := fun q hq => h.none' hq
  have hb1 : b ∉ [t.lo.b, t.lo.c] := by have := (List.nodup_cons.1 hnd2.1).1; exact this
  have outA : ∀ q, q ∈ [t.lo.b, t.lo.c] → q ∉ b :: rb t.nD := fun q hq e => by
    rcases List.mem_cons.1 e with e | e
    · exact hb1 (by rw [← e]; exact hq)
    · exact hnd2.2.2 q (List.mem_cons_of_mem _ hq) q (List.mem_append.2 (.inl e)) rfl
  have outN : ∀ q, q ∈ t.N.flatMap fp → q ∉ b :: rb t.nD := fun q hq e => by
    rcases List.mem_cons.1 e with e | e
    · exact hnd2.2.2 b (by simp) q (List.mem_append.2 (.inr hq)) e.symm
    · exact hnd3.2.2 q e q hq rfl
  have memN : ∀ y ∈ t.N, ∀ q ∈ fp y, q ∈ t.N.flatMap fp := fun y hy q hq => List.mem_flatMap.2 ⟨y, hy, hq⟩
  refine ⟨⟨h1, ⟨hk _ _ (outA _ (by simp)) h.ht.hr.hb, hk _ _ (outA _ (by simp)) h.ht.hr.hc, h.ht.hr.ne, h.ht.hr.cap⟩, h.ht.hs, h2, fun y hy => ?_, fun y hy => ?_, fun y hy => ?_⟩, fun q r hq => ?_, fun q hq => ?_, ?_, ?_⟩
  · rcases List.mem_append.1 hy with hy | hy
    · exact hk _ _ (outN _ (memN y hy _ (by simp [fp]))) (h.ht.hn y hy)
    · rw [List.mem_singleton.1 hy]; exact h3
  · rcases List.mem_append.1 hy with hy | hy
    · exact (h.ht.ht y hy).keep hk fun q hq => outN q (memN y hy q (by simp [fp, hq]))
    · rw [List.mem_singleton.1 hy, ht.1, ht.2]; exact .inl ⟨rfl, rfl⟩
  · rcases List.mem_append.1 hy with hy | hy
    · exact (h.ht.hd y hy).keep hk fun q hq => outN q (memN y hy q (by simp [fp, hq]))
    · rw [List.mem_singleton.1 hy, hd.1, hd.2]; exact .inl ⟨rfl, rfl⟩
  · refine hk q r (fun e => ?_) (h.sub _ _ hq)
    rw [h.no q (by
      rw [hbs]
      rcases List.mem_cons.1 e with e | e
      · rw [e]; simp
      · exact List.mem_append.2 (.inr (List.mem_append.2 (.inl e))))] at hq
    cases hq
  · rw [hbs'] at hq
    rcases List.mem_append.1 hq with hq | hq
    · rcases List.mem_append.1 hq with hq | hq
      · exact h.no q (by rw [hbs]; exact List.mem_append.2 (.inl hq))
      · rcases List.mem_append.1 hq with hq | hq
        · rcases hf q hq with e | e
          · exact h.no q (by rw [hbs]; exact List.mem_append.2 (.inr (List.mem_append.2 (.inl e))))
          · exact hno q e
        · exact h.no q (by rw [hbs]; exact List.mem_append.2 (.inr (List.mem_append.2 (.inr hq))))
    · rw [List.mem_singleton.1 hq]; exact hno _ hx
  · rw [hbs', List.nodup_append]
    refine ⟨nodup_swap hnd hfn fun q hq => ?_, by simp, fun a ha c hc e => ?_⟩
    · rcases hf q hq with e | e
      · exact ⟨fun hl => hnd2.2.2 q hl q (List.mem_append.2 (.inl e)) rfl, fun hr => hnd3.2.2 q e q hr rfl⟩
      · constructor
        · intro hl; have := hsome q (List.mem_append.2 (.inl hl)); rw [e] at this; cases this
        · intro hr; have := hsome q (List.mem_append.2 (.inr (List.mem_append.2 (.inr hr)))); rw [e] at this; cases this
    · rw [List.mem_singleton] at hc
      rw [e, hc] at ha
      rcases List.mem_append.1 ha with ha | ha
      · have := hsome _ (List.mem_append.2 (.inl ha)); rw [hx] at this; cases this
      · rcases List.mem_append.1 ha with ha | ha
        · exact hxn ha
        · have := hsome _ (List.mem_append.2 (.inr (List.mem_append.2 (.inr ha)))); rw [hx] at this; cases this
  · show ((t.N ++ [x]).map (·.k)).Nodup
    rw [List.map_append, List.nodup_append]
    refine ⟨h.kd, by simp, fun a ha c hc => ?_⟩
    obtain ⟨y, hy, rfl⟩ := List.mem_map.1 ha
    simp at hc
    rw [hc]
    exact hkk y hy
end Go.Proofs.Ytcfeklnmampndaa
set_option linter.unusedSimpArgs false
set_option linter.unusedVariables false
namespace Go.Proofs.Ytcfeklnmampndaa
open Go Go.Sn Go.RowKit
-- NONE stH_none

structure OkD (t : DT) : Prop where
  len : ∀ x ∈ t.N, LenD x
  N : t.N.length ≤ 1000000
def DT.up (t : DT) (k : Ky) : Bool := decide (k = []) || match t.fnd (k.take (k.length - 1)) with | none => false | some x => decide (((k.getD (k.length - 1) 0).toNat : Int) ∈ x.dn)
def DT.mkE (t : DT) (k : Ky) : Int := if (rpl t.s0 (rowK k)).1 ≠ 0 then (rpl t.s0 (rowK k)).1 else if (t.fnd k).isSome then 7 else if t.up k then 0 else 6
theorem dFind_none (W : World) {H : Heap} {b : Nat} {t : DT} (h : AtD H b t) (ho : OkD t) {k : Ky} (hx : t.fnd k = none) :
    CallA Try.prog W 22 [pB b, dS k] H fun r H' => r = .v (.pointer none) ∧ H' = H := by
  have := dFind_call W H b t h ho.N k
  rw [hx] at this
  exact this
theorem dFind_some (W : World) {H : Heap} {b : Nat} {t : DT} (h : AtD H b t) (ho : OkD t) {k : Ky} {x : DN} (hx : t.fnd k = some x) :
    CallA Try.prog W 22 [pB b, dS k] H fun r H' => r = .v (.pointer (some ⟨x.b, 0, none⟩)) ∧ H' = H := by
  have := dFind_call W H b t h ho.N k
  rw [hx] at this
  exact this
theorem AtD.node {H : Heap} {b : Nat} {t : DT} (h : AtD H b t) {k : Ky} {x : DN} (hx : t.fnd k = some x) : H x.b = some (.cells [.v (.string (strL x.k)), .v (.int .i64 x.ow), .list (intsC x.sl), x.tD, x.dD] 58) := h.hn x (dfnd_mem hx).1
set_option maxHeartbeats 4000000 in
theorem dMake_no (W : World) (H : Heap) (b : Nat) (t : DT) (h : AtD H b t) (ho : OkD t) (k : Ky) (hk : okS k) (sl : List Int) (o : Int) (he : t.mkE k ≠ 0) :
    CallA Try.prog W 14 [pB b, dS k, .list (intsC sl), .v (.int .i64 o)] H fun r H' => r = .v (.int .i64 (t.mkE k)) ∧ H' = H := by
  refine call_in Try.func14 rfl Try.ntmps14 (by simp) ?_
  unfold DT.mkE at he ⊢
  repeat' (first
    | (with_reducible apply run_seq)
    | ((with_reducible apply run_go); simp only [go_sem, *]))
  (with_reducible apply runO_callF known25); simp only [go_sem, *]
  refine (dAt_call W H b t.lo t.s0 t.nD t.cl h.hb h.hr h.hs k hk).mono (fun d1 H1 hh => ?_)
  rcases hh with ⟨h0, rfl, hH⟩ | ⟨h0, lo, hlb, hlc, hne, hcap, rfl, rfl⟩
  · obtain rfl := hH.symm
    rw [if_pos h0]
    clear he
    generalize (rpl t.s0 (rowK k)).1 = er at *
    (with_reducible apply runO_go); simp only [go_sem, *]
    repeat' (first
    | (with_reducible apply run_seq)
    | ((with_reducible apply run_go); simp only [go_sem, *])
    | ((with_reducible apply run_cond_t); (focus (simp only [go_sem, *]; done)))
    | ((with_reducible apply run_ret Try.func14 res14 (H' := H)); (focus (simp only [go_sem, *]; rfl)); (focus trivial); (focus (repeat (first | assumption | exact Heap.sub_refl _ | refine Heap.sub_congr ?_ | refine Heap.sub_set ?_ (by assumption) | refine Heap.sub_set2 ?_ (by first | assumption | (simp only [*]; done) | (simp only [Heap.set_none', stH_none, ne_eq, *, not_false_eq_true, and_self]; done)))))))
    exact ⟨rfl, rfl⟩
  · rw [if_neg (fun e => e h0)] at he ⊢
    have hsub : H.sub (stR H lo (rpl t.s0 (rowK k)).2.2) := stH_subH hlb hlc
    generalize stR H lo (rpl t.s0 (rowK k)).2.2 = K at *
    clear h0 hlb hlc
    (with_reducible apply runO_go); simp only [go_sem, *]
    refine run_drop hsub ?_
    cases hx : t.fnd k with
    | some x =>
      have c1 := dFind_some W h ho hx
      clear he
      repeat' (first
    | (with_reducible apply run_seq)
    | (with_reducible apply run_skip)
    | ((with_reducible apply run_go); simp only [go_sem, *])
    | ((with_reducible apply run_cond_t); (focus (simp only [go_sem, *]; done)))
    | ((with_reducible apply run_cond_f); (focus (simp only [go_sem, *]; done)))
    | ((with_reducible apply runO_callF known22); simp only [go_sem, *]; refine (c1).use ?_; (with_reducible apply runO_go); simp only [go_sem, *])
    | ((with_reducible apply run_ret Try.func14 res14 (H' := H)); (focus (simp only [go_sem, *]; rfl)); (focus trivial); (focus (repeat (first | assumption | exact Heap.sub_refl _ | refine Heap.sub_congr ?_ | refine Heap.sub_set ?_ (by assumption) | refine Heap.sub_set2 ?_ (by first | assumption | (simp only [*]; done) | (simp only [Heap.set_none', stH_none, ne_eq, *, not_false_eq_true, and_self]; done)))))))
      exact ⟨rfl, rfl⟩
    | none =>
      have c1 := dFind_none W h ho hx
      rw [hx] at he
      cases hu : t.up k with
      | true => rw [hu] at he; exact absurd rfl he
      | false =>
        clear he
        unfold DT.up at hu
        rw [Bool.or_eq_false_iff, decide_eq_false_iff_not] at hu
        obtain ⟨hne0, hu⟩ := hu
        have hpos : 0 < (k.length : Int) := by have := List.length_pos_iff.2 hne0; omega
        have hw : IntKind.i64.wrap ((k.length : Int) - 1) = ((k.length - 1 : Nat) : Int) := by unfold okS at hk; rw [wrapP (by omega) (by omega)]; omega
        have hlt : ((k.length - 1 : Nat) : Int) < (k.length : Int) := by omega
        have hle : ((k.length - 1 : Nat) : Int) ≤ (k.length : Int) := by omega
        have hin := strL_init k
        generalize hb0 : k.getD (k.length - 1) 0 = bt at *
        have hlt256 := bt.toNat_lt
        have w0 : IntKind.i64.wrap (bt.toNat : Int) = (bt.toNat : Int) := wrap_small (by omega) (by omega)
        cases hy : t.fnd (k.take (k.length - 1)) with
        | none =>
          have c2 := dFind_none W h ho hy
          clear hu hlt256
          repeat' (first
    | (with_reducible apply run_seq)
    | (with_reducible apply run_skip)
    | ((with_reducible apply run_go); simp only [go_sem, *])
    | ((with_reducible apply run_drawGo Cl.zero Cl.zero_plain mixed); (focus kernel_rfl); simp only [go_sem, *])
    | ((with_reducible apply run_cond_t); (focus (simp only [go_sem, *]; done)))
    | ((with_reducible apply run_cond_f); (focus (simp only [go_sem, *]; done)))
    | ((with_reducible apply runD_skipF); (focus rfl); (focus (simp only [go_sem, *]; rfl)); (focus rfl); (with_reducible first | apply runD_go Cl.zero_plain | apply runD_goC); simp only [go_sem, *])
    | ((with_reducible apply runO_callF known22); simp only [go_sem, *]; refine (c1).use ?_; (with_reducible apply runO_go); simp only [go_sem, *])
    | ((with_reducible apply runO_callF known22); simp only [go_sem, *]; refine (c2).use ?_; (with_reducible apply runO_go); simp only [go_sem, *])
    | ((with_reducible apply run_ret Try.func14 res14 (H' := H)); (focus (simp only [go_sem, *]; rfl)); (focus trivial); (focus (repeat (first | assumption | exact Heap.sub_refl _ | refine Heap.sub_congr ?_ | refine Heap.sub_set ?_ (by assumption) | refine Heap.sub_set2 ?_ (by first | assumption | (simp only [*]; done) | (simp only [Heap.set_none', stH_none, ne_eq, *, not_false_eq_true, and_self]; done)))))))
          exact ⟨rfl, rfl⟩
        | some y =>
          have c2 := dFind_some W h ho hy
          have hn := h.node hy
          have hfl := (h.hd y (dfnd_mem hy).1).flat
          rw [hy] at hu
          replace hu : decide ((bt.toNat : Int) ∈ y.dn) = false := hu
          have c3 := fun H => in_call W H y.dn (bt.toNat : Int) (ho.len y (dfnd_mem hy).1).dn
          rw [hu] at c3
          clear hu hlt256
          repeat' (first
    | (with_reducible apply run_seq)
    | (with_reducible apply run_skip)
    | ((with_reducible apply run_go); simp only [go_sem, *])
    | ((with_reducible apply run_drawGo Cl.zero Cl.zero_plain mixed); (focus kernel_rfl); simp only [go_sem, *])
    | ((with_reducible apply run_cond_t); (focus (simp only [go_sem, *]; done)))
    | ((with_reducible apply run_cond_f); (focus (simp only [go_sem, *]; done)))
    | ((with_reducible apply runO_callF known22); simp only [go_sem, *]; refine (c1).use ?_; (with_reducible apply runO_go); simp only [go_sem, *])
    | ((with_reducible apply runO_callF known22); simp only [go_sem, *]; refine (c2).use ?_; (with_reducible apply runO_go); simp only [go_sem, *])
    | ((with_reducible apply runD_callFG known40); (focus exact ⟨rfl, rfl⟩); (focus (simp only [go_sem, *]; rfl)); (focus (intro _; simp only [go_sem, *]; exact c3 _)); (with_reducible first | apply runD_go Cl.zero_plain | apply runD_goC); simp only [go_sem, *])
    | ((with_reducible apply run_ret Try.func14 res14 (H' := H)); (focus (simp only [go_sem, *]; rfl)); (focus trivial); (focus (repeat (first | assumption | exact Heap.sub_refl _ | refine Heap.sub_congr ?_ | refine Heap.sub_set ?_ (by assumption) | refine Heap.sub_set2 ?_ (by first | assumption | (simp only [*]; done) | (simp only [Heap.set_none', stH_none, ne_eq, *, not_false_eq_true, and_self]; done)))))))
          exact ⟨rfl, rfl⟩
theorem dmkE_ok {t : DT} {k : Ky} (he : t.mkE k = 0) : (rpl t.s0 (rowK k)).1 = 0 ∧ t.fnd k = none ∧ t.up k = true := by
  unfold DT.mkE at he
  by_cases h0 : (rpl t.s0 (rowK k)).1 = 0
  · rw [if_neg (fun e => e h0)] at he
    cases hx : t.fnd k with
    | some x => rw [hx] at he; simp at he
    | none =>
      rw [hx] at he
      refine ⟨h0, rfl, ?_⟩
      cases hu : t.up k with
      | true => rfl
      | false => rw [hu] at he; simp at he
  · rw [if_pos h0] at he; exact absurd he h0

set_option maxHeartbeats 4000000 in
theorem dMake_ok (W : World) (Ho H : Heap) (b : Nat) (t : DT) (h : AtDF Ho H b t) (ho : OkD t) (k : Ky) (hk : okS k) (sl : List Int) (o : Int) (he : t.mkE k = 0) :
    CallA Try.prog W 14 [pB b, dS k, .list (intsC sl), .v (.int .i64 o)] H fun r H' => r = .v (.int .i64 0) ∧ ∃ nb nD', AtDF Ho H' b { t with N := t.N ++ [⟨k, nb, o, sl, [], [], .nil, .nil⟩], nD := nD' } := by
  refine call_in Try.func14 rfl Try.ntmps14 (by simp) ?_
  obtain ⟨h0, hx, hu⟩ := dmkE_ok he
  clear he
  have c1 := dFind_none W h.ht ho hx
  have HX : Hid _ := hx
  have hb := h.ht.hb
  have hNl : t.N.length ≤ 1000000 := ho.N
  repeat' (first
    | (with_reducible apply run_seq)
    | ((with_reducible apply run_go); simp only [go_sem, *]))
  (with_reducible apply runO_callF known25); simp only [go_sem, *]
  refine (dAt_call W H b t.lo t.s0 t.nD t.cl hb h.ht.hr h.ht.hs k hk).mono (fun d1 H1 hh => ?_)
  rcases hh with ⟨h1, _⟩ | ⟨_, lo, hlb, hlc, hne, hcap, rfl, rfl⟩
  · exact absurd h0 h1
  have hsub : H.sub (stR H lo (rpl t.s0 (rowK k)).2.2) := stH_subH hlb hlc
  generalize stR H lo (rpl t.s0 (rowK k)).2.2 = K at *
  clear h0 hlb hlc hx
  (with_reducible apply runO_go); simp only [go_sem, *]
  refine run_drop hsub ?_
  clear hsub
  unfold DT.up at hu
  rw [Bool.or_eq_true, decide_eq_true_eq] at hu
  by_cases hne0 : k = []
  · clear hu
    subst hne0
    repeat' (first
    | (with_reducible apply run_seq)
    | (with_reducible apply run_skip)
    | ((with_reducible apply run_go); simp only [go_sem, *])
    | ((with_reducible apply run_cond_f); (focus (simp only [go_sem, *]; done)))
    | ((with_reducible apply runO_box); (focus (simp only [go_sem, *]; done)); intro pb hpb; have hfb := Heap.ne_of_none hpb; (try simp only [Heap.set_none', stH_none] at hpb); (with_reducible apply runO_go); simp only [go_sem, *])
    | ((with_reducible apply runO_callF known22); simp only [go_sem, *]; refine (c1).use ?_; (with_reducible apply runO_go); simp only [go_sem, *])
    | ((with_reducible apply runO_buildSlice); (focus (simp only [go_sem]; rfl)); (focus (simp only [go_sem]; rfl)); (focus (simp only [go_sem]; rfl)); (focus rfl); (focus rfl); (focus (simp only [go_sem, *]; done)); (focus (simp only [go_sem, *]; done)); (focus decide); (with_reducible apply runO_go); simp only [go_sem, *]))
    have hRow := h.ht.hN.mono (Heap.sub_set (r := .cells (dnC ⟨[], pb, o, sl, [], [], .nil, .nil⟩) 58) (Heap.sub_refl H) hpb)
    obtain ⟨H0, hc0, hk0, hn0⟩ := row_coll hRow
    have hbp : b ≠ pb := fun e => by rw [← e, hb] at hpb; cases hpb
    have hbr : b ∉ rb t.nD := fun e => by
      have := h.nd
      unfold dbs at this
      have h2 : (b :: (([t.lo.b, t.lo.c] ++ rb t.nD) ++ t.N.flatMap fp)).Nodup := by simpa using this
      exact (List.nodup_cons.1 h2).1 (by simp [e])
    have hpr : pb ∉ rb t.nD := fun e => by
      have := h.ht.hN.blk pb e
      rw [hpb] at this
      cases this
    have q0 : H0 b = some (.cells [.v (.pointer (some ⟨t.lo.b, 0, none⟩)), t.nD, .v (.int .i64 t.cl)] 38) := hk0 _ _ hbr (by rw [Heap.set_other _ _ hbp]; exact hb)
    have p0 : H0 pb = some (.cells (dnC ⟨[], pb, o, sl, [], [], .nil, .nil⟩) 58) := hk0 _ _ hpr (Heap.set_same _ _ _)
    have HH : Hid _ := h
    have HK0 : Hid _ := hk0
    have HN0 : Hid _ := hn0
    clear h hk0 hn0 hRow hfb
    (refine runO_coll (t := 36) Try.underlying36 sz55 by55 zr55 rfl (by simp only [go_sem, *]; exact hc0) (by simp only [go_sem, *]; rfl) (ptrsC_all _) (by simp) (by (try simp only [List.length_range, List.length_map, List.length_take, List.length_cons, List.length_nil, List.length_append, go_sem]); omega) (by (try simp only [maxLen, List.length_range, List.length_map, List.length_take, List.length_cons, List.length_nil, List.length_append, go_sem]); omega) (fun d1 H1 hc1 => ?_); (with_reducible apply runO_go); simp only [go_sem, *])
    obtain ⟨hr1, hs1, hnew⟩ := coll_row hc1
    obtain ⟨st1, st2, st3⟩ := hr1.stor
    have q1 := hs1 _ _ q0
    have st4 : d1.cells.length = 1 := by rw [st2]; rfl
    have HR1 : Hid _ := hr1
    have HC1 : Hid _ := hc1
    clear hr1 hc1 hc0
    repeat' (first
    | (with_reducible apply run_seq)
    | ((with_reducible apply run_go); simp only [go_sem, *])
    | ((with_reducible apply runO_store); (focus (simp only [go_sem]; rfl)); (focus (simp only [go_sem, *]; rfl)); (focus (simp only [go_sem, *]; rfl)); (focus (simp only [go_sem, *]; done)); (focus (simp only [go_sem, *]; done)); (focus (simp only [go_sem, *]; done)); (with_reducible apply runO_go); simp only [go_sem, *, Heap.set_set])
    | ((with_reducible apply run_ret Try.func14 res14 (H' := H1.set b (.cells [.v (.pointer (some ⟨t.lo.b, 0, none⟩)), d1, .v (.int .i64 t.cl)] 38))); (focus (simp only [go_sem, *]; rfl)); (focus trivial); (focus (repeat (first | assumption | exact Heap.sub_refl _ | refine Heap.sub_congr ?_ | refine Heap.sub_set ?_ (by assumption) | refine Heap.sub_set2 ?_ (by first | assumption | (simp only [*]; done) | (simp only [Heap.set_none', stH_none, ne_eq, *, not_false_eq_true, and_self]; done)))))))
    refine ⟨rfl, pb, d1, HH.out.add (x := ⟨[], pb, o, sl, [], [], .nil, .nil⟩) (fun q r hq hr => ?_) (Heap.set_same _ _ _) ?_ ?_ hpb (fun q hq => ?_) ?_ (fun e => ?_) ⟨rfl, rfl⟩ ⟨rfl, rfl⟩ (fun y hy e => ?_)⟩
    · have hqb : q ≠ b := fun e => hq (by rw [e]; exact List.mem_cons_self ..)
      have hqr : q ∉ rb t.nD := fun e => hq (List.mem_cons_of_mem _ e)
      have hqp : q ≠ pb := fun e => by rw [e, hpb] at hr; cases hr
      rw [Heap.set_other _ _ hqb]
      exact hs1 _ _ (HK0.out _ _ hqr (by rw [Heap.set_other _ _ hqp]; exact hr))
    · have hx : ptrsC (t.N ++ [⟨[], pb, o, sl, [], [], .nil, .nil⟩]) = ptrsC t.N ++ [[.v (.pointer (some ⟨pb, 0, none⟩))]] := by simp [ptrsC]
      rw [hx]
      refine RowD.keep HR1.out (S := [b]) (fun q r hq hr => by rw [Heap.set_other _ _ (by simpa using hq)]; exact hr) fun q hq e => ?_
      have := hnew q hq
      rw [List.mem_singleton.1 e, q0] at this
      cases this
    · rw [Heap.set_other _ _ (fun e => hbp e.symm)]
      exact hs1 _ _ p0
    · by_cases hqr : q ∈ rb t.nD
      · exact .inl hqr
      · refine .inr ?_
        cases hx : H q with
        | none => rfl
        | some r =>
          have hqp : q ≠ pb := fun e => by rw [e, hpb] at hx; cases hx
          have := HK0.out q r hqr (by rw [Heap.set_other _ _ hqp]; exact hx)
          rw [hnew q hq] at this
          cases this
    · cases HC1.out <;> simp [rb]
    · have := hnew pb e
      rw [p0] at this
      cases this
    · have := List.find?_eq_none.1 HX.out y hy
      simp [e] at this
  · have hpos : 0 < (k.length : Int) := by have := List.length_pos_iff.2 hne0; omega
    have hw : IntKind.i64.wrap ((k.length : Int) - 1) = ((k.length - 1 : Nat) : Int) := by unfold okS at hk; rw [wrapP (by omega) (by omega)]; omega
    have hlt : ((k.length - 1 : Nat) : Int) < (k.length : Int) := by omega
    have hle : ((k.length - 1 : Nat) : Int) ≤ (k.length : Int) := by omega
    have hin := strL_init k
    generalize hb0 : k.getD (k.length - 1) 0 = bt at *
    have hlt256 := bt.toNat_lt
    have w0 : IntKind.i64.wrap (bt.toNat : Int) = (bt.toNat : Int) := wrap_small (by omega) (by omega)
    clear hlt256
    rcases hu with hu | hu
    · exact absurd hu hne0
    cases hy : t.fnd (k.take (k.length - 1)) with
    | none => rw [hy] at hu; cases hu
    | some y =>
    have c2 := dFind_some W h.ht ho hy
    have hn := h.ht.node hy
    have hfl := (h.ht.hd y (dfnd_mem hy).1).flat
    rw [hy] at hu
    replace hu : decide ((bt.toNat : Int) ∈ y.dn) = true := hu
    have c3 := fun H => in_call W H y.dn (bt.toNat : Int) (ho.len y (dfnd_mem hy).1).dn
    rw [hu] at c3
    clear hu
    repeat' (first
    | (with_reducible apply run_seq)
    | (with_reducible apply run_skip)
    | ((with_reducible apply run_go); simp only [go_sem, *])
    | ((with_reducible apply run_drawGo Cl.zero Cl.zero_plain mixed); (focus kernel_rfl); simp only [go_sem, *])
    | ((with_reducible apply run_cond_t); (focus (simp only [go_sem, *]; done)))
    | ((with_reducible apply run_cond_f); (focus (simp only [go_sem, *]; done)))
    | ((with_reducible apply runO_box); (focus (simp only [go_sem, *]; done)); intro pb hpb; have hfb := Heap.ne_of_none hpb; (try simp only [Heap.set_none', stH_none] at hpb); (with_reducible apply runO_go); simp only [go_sem, *])
    | ((with_reducible apply runO_callF known22); simp only [go_sem, *]; refine (c1).use ?_; (with_reducible apply runO_go); simp only [go_sem, *])
    | ((with_reducible apply runO_callF known22); simp only [go_sem, *]; refine (c2).use ?_; (with_reducible apply runO_go); simp only [go_sem, *])
    | ((with_reducible apply runD_callFG known40); (focus exact ⟨rfl, rfl⟩); (focus (simp only [go_sem, *]; rfl)); (focus (intro _; simp only [go_sem, *]; exact c3 _)); (with_reducible first | apply runD_go Cl.zero_plain | apply runD_goC); simp only [go_sem, *])
    | ((with_reducible apply runO_buildSlice); (focus (simp only [go_sem]; rfl)); (focus (simp only [go_sem]; rfl)); (focus (simp only [go_sem]; rfl)); (focus rfl); (focus rfl); (focus (simp only [go_sem, *]; done)); (focus (simp only [go_sem, *]; done)); (focus decide); (with_reducible apply runO_go); simp only [go_sem, *]))
    have hRow := h.ht.hN.mono (Heap.sub_set (r := .cells (dnC ⟨k, pb, o, sl, [], [], .nil, .nil⟩) 58) (Heap.sub_refl H) hpb)
    obtain ⟨H0, hc0, hk0, hn0⟩ := row_coll hRow
    have hbp : b ≠ pb := fun e => by rw [← e, hb] at hpb; cases hpb
    have hbr : b ∉ rb t.nD := fun e => by
      have := h.nd
      unfold dbs at this
      have h2 : (b :: (([t.lo.b, t.lo.c] ++ rb t.nD) ++ t.N.flatMap fp)).Nodup := by simpa using this
      exact (List.nodup_cons.1 h2).1 (by simp [e])
    have hpr : pb ∉ rb t.nD := fun e => by
      have := h.ht.hN.blk pb e
      rw [hpb] at this
      cases this
    have q0 : H0 b = some (.cells [.v (.pointer (some ⟨t.lo.b, 0, none⟩)), t.nD, .v (.int .i64 t.cl)] 38) := hk0 _ _ hbr (by rw [Heap.set_other _ _ hbp]; exact hb)
    have p0 : H0 pb = some (.cells (dnC ⟨k, pb, o, sl, [], [], .nil, .nil⟩) 58) := hk0 _ _ hpr (Heap.set_same _ _ _)
    have HH : Hid _ := h
    have HK0 : Hid _ := hk0
    have HN0 : Hid _ := hn0
    clear h hk0 hn0 hRow hfb
    (refine runO_coll (t := 36) Try.underlying36 sz55 by55 zr55 rfl (by simp only [go_sem, *]; exact hc0) (by simp only [go_sem, *]; rfl) (ptrsC_all _) (by simp) (by (try simp only [List.length_range, List.length_map, List.length_take, List.length_cons, List.length_nil, List.length_append, go_sem]); omega) (by (try simp only [maxLen, List.length_range, List.length_map, List.length_take, List.length_cons, List.length_nil, List.length_append, go_sem]); omega) (fun d1 H1 hc1 => ?_); (with_reducible apply runO_go); simp only [go_sem, *])
    obtain ⟨hr1, hs1, hnew⟩ := coll_row hc1
    obtain ⟨st1, st2, st3⟩ := hr1.stor
    have q1 := hs1 _ _ q0
    have st4 : d1.cells.length = 1 := by rw [st2]; rfl
    have HR1 : Hid _ := hr1
    have HC1 : Hid _ := hc1
    clear hr1 hc1 hc0
    repeat' (first
    | (with_reducible apply run_seq)
    | ((with_reducible apply run_go); simp only [go_sem, *])
    | ((with_reducible apply runO_store); (focus (simp only [go_sem]; rfl)); (focus (simp only [go_sem, *]; rfl)); (focus (simp only [go_sem, *]; rfl)); (focus (simp only [go_sem, *]; done)); (focus (simp only [go_sem, *]; done)); (focus (simp only [go_sem, *]; done)); (with_reducible apply runO_go); simp only [go_sem, *, Heap.set_set])
    | ((with_reducible apply run_ret Try.func14 res14 (H' := H1.set b (.cells [.v (.pointer (some ⟨t.lo.b, 0, none⟩)), d1, .v (.int .i64 t.cl)] 38))); (focus (simp only [go_sem, *]; rfl)); (focus trivial); (focus (repeat (first | assumption | exact Heap.sub_refl _ | refine Heap.sub_congr ?_ | refine Heap.sub_set ?_ (by assumption) | refine Heap.sub_set2 ?_ (by first | assumption | (simp only [*]; done) | (simp only [Heap.set_none', stH_none, ne_eq, *, not_false_eq_true, and_self]; done)))))))
    refine ⟨rfl, pb, d1, HH.out.add (x := ⟨k, pb, o, sl, [], [], .nil, .nil⟩) (fun q r hq hr => ?_) (Heap.set_same _ _ _) ?_ ?_ hpb (fun q hq => ?_) ?_ (fun e => ?_) ⟨rfl, rfl⟩ ⟨rfl, rfl⟩ (fun y hy e => ?_)⟩
    · have hqb : q ≠ b := fun e => hq (by rw [e]; exact List.mem_cons_self ..)
      have hqr : q ∉ rb t.nD := fun e => hq (List.mem_cons_of_mem _ e)
      have hqp : q ≠ pb := fun e => by rw [e, hpb] at hr; cases hr
      rw [Heap.set_other _ _ hqb]
      exact hs1 _ _ (HK0.out _ _ hqr (by rw [Heap.set_other _ _ hqp]; exact hr))
    · have hx : ptrsC (t.N ++ [⟨k, pb, o, sl, [], [], .nil, .nil⟩]) = ptrsC t.N ++ [[.v (.pointer (some ⟨pb, 0, none⟩))]] := by simp [ptrsC]
      rw [hx]
      refine RowD.keep HR1.out (S := [b]) (fun q r hq hr => by rw [Heap.set_other _ _ (by simpa using hq)]; exact hr) fun q hq e => ?_
      have := hnew q hq
      rw [List.mem_singleton.1 e, q0] at this
      cases this
    · rw [Heap.set_other _ _ (fun e => hbp e.symm)]
      exact hs1 _ _ p0
    · by_cases hqr : q ∈ rb t.nD
      · exact .inl hqr
      · refine .inr ?_
        cases hx : H q with
        | none => rfl
        | some r =>
          have hqp : q ≠ pb := fun e => by rw [e, hpb] at hx; cases hx
          have := HK0.out q r hqr (by rw [Heap.set_other _ _ hqp]; exact hx)
          rw [hnew q hq] at this
          cases this
    · cases HC1.out <;> simp [rb]
    · have := hnew pb e
      rw [p0] at this
      cases this
    · have := List.find?_eq_none.1 HX.out y hy
      simp [e] at this
end Go.Proofs.Ytcfeklnmampndaa
