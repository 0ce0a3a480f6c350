/-
  Several texts in one: TrA, TrB.
-/
import Derived.Test.YtcfeklnmampndaaSlD
import Derived.Test.YtcfeklnmampndaaStP
import Derived.DeepKeys5
set_option linter.unusedSimpArgs false
set_option linter.unusedVariables false
namespace Go.Proofs.Ytcfeklnmampndaa
open Go Go.Sn Go.RowKit

abbrev Ky := List UInt8
/-- A node: whose it is, who sleeps, who is to be, who was gone into. -/
structure Nd where
  ow : Int
  sl : BitVec 8
  td : BitVec 8
  dn : BitVec 8
def ndC (n : Nd) : List D := [.v (.int .i64 n.ow), .v (.int .u8 (n.sl.toNat : Int)), .v (.int .u8 (n.td.toNat : Int)), .v (.int .u8 (n.dn.toNat : Int))]
def Nd.left (n : Nd) : BitVec 8 := n.td &&& ~~~ n.dn &&& ~~~ n.sl
/-- A node that stands somewhere. -/
structure Nt where
  k : Ky
  b : Nat
  n : Nd
structure Tr where
  p : Pg
  fu : Int
  ns : List Nt
  cl : Int
structure TLo where
  b : Nat
  m : Nat
def kcS (k : Ky) : Value := .string (strL k)
def vcB (o : Option Nat) : D := .v (.pointer (o.map fun b => ⟨b, 0, none⟩))
def okS (k : Ky) : Prop := k.length ≤ 1000000
theorem kcS_inj (a b : Ky) (h : kcS a = kcS b) : a = b := by
  unfold kcS strL at h
  simpa using h
theorem keyS (t : TypeId) (ht : Try.prog.underlying t = some .string) (k : Ky) (hk : okS k) : ∃ l, keyOf Try.prog t (kcS k) = some l := by
  refine ⟨.string k, ?_⟩
  unfold okS at hk
  have h1 : (strL k).size ≤ maxLen := by rw [strL_size]; simp [maxLen]; omega
  have h2 : (strL k).data.toList = k := rfl
  unfold keyOf
  rw [ht]
  unfold mapKey
  rw [ht]
  simp only [kcS, h1, if_true]
  rw [h2]
theorem mtNode : MT Try.prog 84 kcS vcB okS none :=
  ⟨⟨9, 95, Try.underlying84, Maps.string_keyed Try.underlying9, keyS _ Try.underlying9, by kernel_rfl⟩, kcS_inj⟩
def mpT (ns : List Nt) : List (Ky × Option Nat) := ns.map fun x => (x.k, some x.b)
noncomputable def mapT (ns : List Nt) : List (Value × D) := entC kcS vcB (mpT ns)
def trC (t : Tr) (m : Nat) : List D := [.v (.int .i64 t.p.vs), .v (.int .i64 t.p.ms), .list (thsC t.p.th), .v (.int .i64 t.fu), .v (.map (some m)), .v (.int .i64 t.cl)]
def fndN (ns : List Nt) (k : Ky) : Option Nt := ns.find? fun x => decide (x.k = k)
def Tr.fnd (t : Tr) (k : Ky) : Option Nt := fndN t.ns k
structure AtT (H : Heap) (l : TLo) (t : Tr) : Prop where
  hb : H l.b = some (.cells (trC t l.m) 86)
  hm : H l.m = some (.map (mapT t.ns))
  hn : ∀ x ∈ t.ns, H x.b = some (.cells (ndC x.n) 98)
  nd : (t.ns.map (·.b)).Nodup
  kd : (t.ns.map (·.k)).Nodup
  ok : ∀ x ∈ t.ns, okS x.k
theorem AtT.mono {H H' : Heap} {l : TLo} {t : Tr} (h : AtT H l t) (hs : H.sub H') : AtT H' l t := ⟨hs _ _ h.hb, hs _ _ h.hm, fun x hx => hs _ _ (h.hn x hx), h.nd, h.kd, h.ok⟩
theorem fnd_mem {ns : List Nt} {k : Ky} {x : Nt} (h : fndN ns k = some x) : x ∈ ns ∧ x.k = k :=
  ⟨List.mem_of_find?_eq_some h, by have := List.find?_some h; simpa using this⟩
theorem getM_mpT (ns : List Nt) (k : Ky) : getM (mpT ns) k = (fndN ns k).map fun x => some x.b := by
  unfold getM fndN mpT
  rw [List.find?_map]
  simp [Function.comp_def]
theorem AtT.mok {H : Heap} {l : TLo} {t : Tr} (h : AtT H l t) : MOk okS (mpT t.ns) := by
  refine ⟨fun x hx => ?_, ?_⟩
  · obtain ⟨y, hy, rfl⟩ := List.mem_map.1 hx
    exact h.ok y hy
  · unfold mpT
    rw [List.map_map]
    exact h.kd
def pN (o : Option Nt) : D := .v (.pointer (o.map fun x => ⟨x.b, 0, none⟩))
theorem pN_get (ns : List Nt) (k : Ky) : vcB ((getM (mpT ns) k).getD none) = pN (fndN ns k) := by
  rw [getM_mpT]
  cases fndN ns k <;> rfl

abbrev pT (l : TLo) : D := .v (.pointer (some ⟨l.b, 0, none⟩))
abbrev dS (k : Ky) : D := .v (.string (strL k))

theorem AtT.cell {H : Heap} {l : TLo} {t : Tr} (h : AtT H l t) : H l.b = some (.cells [.v (.int .i64 t.p.vs), .v (.int .i64 t.p.ms), .list (thsC t.p.th), .v (.int .i64 t.fu), .v (.map (some l.m)), .v (.int .i64 t.cl)] 86) := h.hb
theorem AtT.node {H : Heap} {l : TLo} {t : Tr} (h : AtT H l t) {k : Ky} {x : Nt} (hx : t.fnd k = some x) : H x.b = some (.cells [.v (.int .i64 x.n.ow), .v (.int .u8 (x.n.sl.toNat : Int)), .v (.int .u8 (x.n.td.toNat : Int)), .v (.int .u8 (x.n.dn.toNat : Int))] 98) := h.hn x (fnd_mem hx).1

theorem find_call (W : World) (H : Heap) (l : TLo) (t : Tr) (h : AtT H l t) (k : Ky) (hk : okS k) :
    CallA Try.prog W 39 [pT l, dS k] H fun r H' => r = pN (t.fnd k) ∧ H' = H := by
  refine call_in Try.func39 rfl Try.ntmps39 (by simp) ?_
  have hb := h.cell
  repeat' (first
    | (with_reducible apply run_seq)
    | (with_reducible apply run_skip)
    | ((with_reducible apply run_go); simp only [go_sem, *])
    | ((with_reducible apply run_cond_f); (focus (simp only [go_sem, *]; done))))
  refine runO_lookupM mtNode (b := l.m) (l := mpT t.ns) (k := k) (by simp only [go_sem, *]) h.hm h.mok (by simp only [go_sem, *]; rfl) hk ?_
  rw [pN_get]
  (with_reducible apply runO_go); simp only [go_sem, *]
  repeat' (first
    | ((with_reducible apply run_ret Try.func39 res39 (H' := H)); (focus (simp only [go_sem, *]; rfl)); (focus trivial); (focus (repeat (first | assumption | exact Heap.sub_refl _ | refine Heap.sub_congr ?_ | refine Heap.sub_set ?_ (by assumption) | refine Heap.sub_set2 ?_ (by first | assumption | (simp only [*]; done) | (simp only [Heap.set_none', ne_eq, *, not_false_eq_true, and_self]; done)))))))
  exact ⟨rfl, rfl⟩
theorem nilFind_call (W : World) (H : Heap) (k : Ky) :
    CallA Try.prog W 39 [.v (.pointer none), dS k] H fun r H' => r = .v (.pointer none) ∧ H' = H := by
  refine call_in Try.func39 rfl Try.ntmps39 (by simp) ?_
  repeat' (first
    | (with_reducible apply run_seq)
    | ((with_reducible apply run_go); simp only [go_sem, *])
    | ((with_reducible apply run_cond_t); (focus (simp only [go_sem, *]; done)))
    | ((with_reducible apply run_ret Try.func39 res39 (H' := H)); (focus (simp only [go_sem, *]; rfl)); (focus trivial); (focus (repeat (first | assumption | exact Heap.sub_refl _ | refine Heap.sub_congr ?_ | refine Heap.sub_set ?_ (by assumption) | refine Heap.sub_set2 ?_ (by first | assumption | (simp only [*]; done) | (simp only [Heap.set_none', ne_eq, *, not_false_eq_true, and_self]; done)))))))
  exact ⟨rfl, rfl⟩
theorem left_call (W : World) (H : Heap) (b : Nat) (n : Nd) (h : H b = some (.cells [.v (.int .i64 n.ow), .v (.int .u8 (n.sl.toNat : Int)), .v (.int .u8 (n.td.toNat : Int)), .v (.int .u8 (n.dn.toNat : Int))] 98)) :
    CallA Try.prog W 43 [.v (.pointer (some ⟨b, 0, none⟩))] H fun r H' => r = .v (.int .u8 (n.left.toNat : Int)) ∧ H' = H := by
  refine call_in Try.func43 rfl Try.ntmps43 (by simp) ?_
  repeat' (first
    | (with_reducible apply run_seq)
    | ((with_reducible apply run_go); simp only [go_sem, *])
    | ((with_reducible apply run_drawGo Cl.zero Cl.zero_plain mixed); (focus kernel_rfl); simp only [go_sem, *])
    | ((with_reducible apply run_ret Try.func43 res43 (H' := H)); (focus (simp only [go_sem, *]; rfl)); (focus trivial); (focus (repeat (first | assumption | exact Heap.sub_refl _ | refine Heap.sub_congr ?_ | refine Heap.sub_set ?_ (by assumption) | refine Heap.sub_set2 ?_ (by first | assumption | (simp only [*]; done) | (simp only [Heap.set_none', ne_eq, *, not_false_eq_true, and_self]; done)))))))
  exact ⟨rfl, rfl⟩
end Go.Proofs.Ytcfeklnmampndaa
set_option linter.unusedSimpArgs false
set_option linter.unusedVariables false
namespace Go.Proofs.Ytcfeklnmampndaa
open Go Go.Sn Go.RowKit
-- NONE stH_none

/-- A prefix's threads. -/
def rowK (k : Ky) : List Int := k.map fun b => (b.toNat : Int)
theorem rowK_len (k : Ky) : (rowK k).length = k.length := by simp [rowK]
theorem rowK_take {k : Ky} {j : Nat} (h : j < k.length) : rowK (k.take (j + 1)) = rowK (k.take j) ++ [((k.getD j 0).toNat : Int)] := by
  have : k.take (j + 1) = k.take j ++ [k.getD j 0] := take_succ_getD k j h
  unfold rowK
  rw [this, List.map_append]
  rfl
/-- The first error, the events, the state. -/
def Tr.at (t : Tr) (k : Ky) : Int × List Ev × St := rpl (newS t.p t.fu) (rowK k)
structure OkT (t : Tr) : Prop where
  ok : okN t.p t.fu = true
  few : ∀ c ∈ t.p.th, c.length ≤ 1000000
def AtQ (t : Tr) (k : Ky) (H : Heap) (d : D) (H' : Heap) : Prop :=
  ((t.at k).1 ≠ 0 ∧ d = .tup [.v (.pointer none), .list [], .v (.int .i64 (t.at k).1)] ∧ H' = H) ∨
  ((t.at k).1 = 0 ∧ ∃ l : Lo, H l.b = none ∧ H l.c = none ∧ l.b ≠ l.c ∧ t.p.th.length ≤ l.cap ∧
    d = .tup [.v (.pointer (some ⟨l.b, 0, none⟩)), .list (evsC (t.at k).2.1), .v (.int .i64 0)] ∧ H' = stP H l (t.at k).2.2)

set_option maxHeartbeats 8000000 in
theorem at_call (W : World) (H : Heap) (l : TLo) (t : Tr) (h : AtT H l t) (ho : OkT t) (k : Ky) (hk : okS k) :
    CallA Try.prog W 24 [pT l, dS k] H (AtQ t k H) := by
  refine call_in Try.func24 rfl Try.ntmps24 (by simp) ?_
  have hb := h.cell
  unfold okS at hk
  have c1 := fun H => replay_call W H t.p t.fu (rowK k) ho.few (by rw [rowK_len]; exact hk)
  repeat' (first
    | (with_reducible apply run_seq)
    | (with_reducible apply run_skip)
    | ((with_reducible apply run_go); simp only [go_sem, *])
    | ((with_reducible apply run_cond_f); (focus (simp only [go_sem, *]; done))))
  refine runO_bytes (s := strL k) Try.underlying9 Try.underlying106 Try.underlying5 ?_ ?_
  · simp only [go_sem]
  (with_reducible apply runO_go); simp only [go_sem]
  repeat' (first
    | (with_reducible apply run_block))
  refine run_loop (fun na ea Ha => ∃ (j : Nat), j ≤ k.length ∧ na = k.length - j ∧ ea 0 = pT l ∧ ea 13 = .list (bytesC k) ∧ ea 14 = .v (.int .i64 (k.length : Int)) ∧ ea 15 = .v (.int .i64 (j : Int)) ∧ Coll (H) (3) (1) (intsC (rowK (k.take j))) (ea 7) Ha) (k.length)
      ⟨0, Nat.zero_le _, rfl, (by simp only [go_sem, *]), (by simp only [go_sem, *]), (by simp only [go_sem, *]), (by simp only [go_sem] <;> rfl), (by simp only [go_sem]; exact .none rfl)⟩ ?_
  rintro na ea Ha ih ⟨j, ak, rfl, as0, as13, as14, as15, ca⟩
  generalize hac : ea 7 = da at ca
  have IHa : Hid _ := ih
  clear ih
  have hsub := ca.sub
  have hfl := ca.flat
  have hba := hsub _ _ hb
  by_cases hlt : j < k.length
  · have hw := wrap_succ (k := j) (by omega)
    have hrl := rowK_len (k.take j)
    rw [List.length_take] at hrl
    have hrt := rowK_take hlt
    generalize hb0 : k.getD j 0 = b at *
    have hlt256 := b.toNat_lt
    have w0 : IntKind.i64.wrap (b.toNat : Int) = (b.toNat : Int) := wrap_small (by omega) (by omega)
    have HRT : Hid _ := hrt
    clear hrt hlt256 c1
    repeat' (first
    | (with_reducible apply run_seq)
    | (with_reducible apply run_block)
    | (with_reducible apply run_skip)
    | ((with_reducible apply run_go); simp only [go_sem, *])
    | ((with_reducible apply run_cond_t); (focus (simp only [go_sem, *]; done)))
    | ((with_reducible apply runO_buildSlice); (focus (simp only [go_sem]; rfl)); (focus (simp only [go_sem]; rfl)); (focus (simp only [go_sem]; rfl)); (focus rfl); (focus rfl); (focus (simp only [go_sem, *]; done)); (focus (simp only [go_sem, *]; done)); (focus decide); (with_reducible apply runO_go); simp only [go_sem, *]))
    (refine runO_coll (t := 41) Try.underlying41 sz3 by3 zr3 rfl (by simp only [go_sem, *]; exact ca) (by simp only [go_sem, *]; rfl) (intsC_all _) (by simp) (by (try simp only [List.length_range, List.length_map, List.length_take, List.length_cons, List.length_nil, List.length_append, go_sem]); omega) (by (try simp only [maxLen, List.length_range, List.length_map, List.length_take, List.length_cons, List.length_nil, List.length_append, go_sem]); omega) (fun d1 H1 hc1 => ?_); (with_reducible apply runO_go); simp only [go_sem, *])
    repeat' (first
    | (with_reducible apply run_inBlock)
    | ((with_reducible apply run_go); simp only [go_sem, *]))
    refine IHa.out (k.length - (j + 1)) _ _ (by omega) ⟨j + 1, by omega, rfl, (by simp only [go_sem, *]), (by simp only [go_sem, *]), (by simp only [go_sem, *]), (by simp only [go_sem, *]), ?_⟩
    simp only [go_sem]
    rw [HRT.out, intsC_snoc]
    exact hc1
  · obtain rfl : j = k.length := by omega
    have c2 := c1 Ha
    rw [List.take_length] at ca hfl
    repeat' (first
    | ((with_reducible apply run_drawGoC (Cl.alone 47) mixed); (focus kernel_rfl); simp only [go_sem, *])
    | (with_reducible apply run_seq)
    | (with_reducible apply run_exit rfl)
    | ((with_reducible apply run_go); simp only [go_sem, *])
    | ((with_reducible apply run_cond_f); (focus (simp only [go_sem, *]; done))))
    refine runD_callX known47 rfl (fun _ _ _ => Cl.alone_fr _ _ _) (by simp only [go_sem, *]; exact c2) (fun d1 H1 hh => ?_)
    rcases hh with ⟨hno, _⟩ | ⟨_, he, rfl, rfl⟩ | ⟨_, he, lo, hlb, hlc, hne, hcap, rfl, rfl⟩
    · rw [ho.ok] at hno; cases hno
    · (with_reducible apply runD_goC); simp only [go_sem, *]
      repeat' (first
    | ((with_reducible apply run_ret Try.func24 res24 (H' := H)); (focus (simp only [go_sem, *]; rfl)); (focus trivial); (focus (repeat (first | assumption | exact Heap.sub_refl _ | refine Heap.sub_congr ?_ | refine Heap.sub_set ?_ (by assumption) | refine Heap.sub_set2 ?_ (by first | assumption | (simp only [*]; done) | (simp only [Heap.set_none', stH_none, ne_eq, *, not_false_eq_true, and_self]; done)))))))
      exact .inl ⟨he, rfl, rfl⟩
    · (with_reducible apply runD_goC); simp only [go_sem, *]
      have hlb' : H lo.b = none := by
        cases hx : H lo.b with
        | none => rfl
        | some r => rw [hsub _ _ hx] at hlb; cases hlb
      have hlc' : H lo.c = none := by
        cases hx : H lo.c with
        | none => rfl
        | some r => rw [hsub _ _ hx] at hlc; cases hlc
      have hsub2 : (stP H lo (rpl (newS t.p t.fu) (rowK k)).2.2).sub (stP Ha lo (rpl (newS t.p t.fu) (rowK k)).2.2) := stH_sub fun q r e1 e2 hq => hsub q r hq
      repeat' (first
    | ((with_reducible apply run_ret Try.func24 res24 (H' := stP H lo (rpl (newS t.p t.fu) (rowK k)).2.2)); (focus (simp only [go_sem, *]; rfl)); (focus trivial); (focus (repeat (first | assumption | exact Heap.sub_refl _ | refine Heap.sub_congr ?_ | refine Heap.sub_set ?_ (by assumption) | refine Heap.sub_set2 ?_ (by first | assumption | (simp only [*]; done) | (simp only [Heap.set_none', stH_none, ne_eq, *, not_false_eq_true, and_self]; done)))))))
      exact .inr ⟨he, lo, hlb', hlc', hne, hcap, rfl, rfl⟩
theorem nilAt_call (W : World) (H : Heap) (k : Ky) :
    CallA Try.prog W 24 [.v (.pointer none), dS k] H fun r H' => r = .tup [.v (.pointer none), .list [], .v (.int .i64 8)] ∧ H' = H := by
  refine call_in Try.func24 rfl Try.ntmps24 (by simp) ?_
  repeat' (first
    | (with_reducible apply run_seq)
    | ((with_reducible apply run_go); simp only [go_sem, *])
    | ((with_reducible apply run_cond_t); (focus (simp only [go_sem, *]; done)))
    | ((with_reducible apply run_ret Try.func24 res24 (H' := H)); (focus (simp only [go_sem, *]; rfl)); (focus trivial); (focus (repeat (first | assumption | exact Heap.sub_refl _ | refine Heap.sub_congr ?_ | refine Heap.sub_set ?_ (by assumption) | refine Heap.sub_set2 ?_ (by first | assumption | (simp only [*]; done) | (simp only [Heap.set_none', stH_none, ne_eq, *, not_false_eq_true, and_self]; done)))))))
  exact ⟨rfl, rfl⟩
end Go.Proofs.Ytcfeklnmampndaa
