/-
  Trees: where they lie; contracts: a node, what is read of it.
-/
import Derived.Test.YtcfeklnmampndaaSlD
import Derived.Test.YtcfeklnmampndaaStP
import Derived.DeepKeys5
set_option linter.unusedSimpArgs false
set_option linter.unusedVariables false
namespace Go.Proofs.Ytcfeklnmampndaa
open Go Go.Sn Go.RowKit

abbrev Ky := List UInt8
/-- A node: whose it is, who sleeps, who is to be, who was gone into. -/
structure Nd where
  ow : Int
  sl : BitVec 8
  td : BitVec 8
  dn : BitVec 8
def ndC (n : Nd) : List D := [.v (.int .i64 n.ow), .v (.int .u8 (n.sl.toNat : Int)), .v (.int .u8 (n.td.toNat : Int)), .v (.int .u8 (n.dn.toNat : Int))]
def Nd.left (n : Nd) : BitVec 8 := n.td &&& ~~~ n.dn &&& ~~~ n.sl
/-- A node that stands somewhere. -/
structure Nt where
  k : Ky
  b : Nat
  n : Nd
structure Tr where
  p : Pg
  fu : Int
  ns : List Nt
  cl : Int
structure TLo where
  b : Nat
  m : Nat
def kcS (k : Ky) : Value := .string (strL k)
def vcB (o : Option Nat) : D := .v (.pointer (o.map fun b => ⟨b, 0, none⟩))
def okS (k : Ky) : Prop := k.length ≤ 1000000
theorem kcS_inj (a b : Ky) (h : kcS a = kcS b) : a = b := by
  unfold kcS strL at h
  simpa using h
theorem keyS (t : TypeId) (ht : Try.prog.underlying t = some .string) (k : Ky) (hk : okS k) : ∃ l, keyOf Try.prog t (kcS k) = some l := by
  refine ⟨.string k, ?_⟩
  unfold okS at hk
  have h1 : (strL k).size ≤ maxLen := by rw [strL_size]; simp [maxLen]; omega
  have h2 : (strL k).data.toList = k := rfl
  unfold keyOf
  rw [ht]
  unfold mapKey
  rw [ht]
  simp only [kcS, h1, if_true]
  rw [h2]
theorem mtNode : MT Try.prog 84 kcS vcB okS none :=
  ⟨⟨9, 95, Try.underlying84, Maps.string_keyed Try.underlying9, keyS _ Try.underlying9, by kernel_rfl⟩, kcS_inj⟩
def mpT (ns : List Nt) : List (Ky × Option Nat) := ns.map fun x => (x.k, some x.b)
noncomputable def mapT (ns : List Nt) : List (Value × D) := entC kcS vcB (mpT ns)
def trC (t : Tr) (m : Nat) : List D := [.v (.int .i64 t.p.vs), .v (.int .i64 t.p.ms), .list (thsC t.p.th), .v (.int .i64 t.fu), .v (.map (some m)), .v (.int .i64 t.cl)]
def fndN (ns : List Nt) (k : Ky) : Option Nt := ns.find? fun x => decide (x.k = k)
def Tr.fnd (t : Tr) (k : Ky) : Option Nt := fndN t.ns k
structure AtT (H : Heap) (l : TLo) (t : Tr) : Prop where
  hb : H l.b = some (.cells (trC t l.m) 86)
  hm : H l.m = some (.map (mapT t.ns))
  hn : ∀ x ∈ t.ns, H x.b = some (.cells (ndC x.n) 98)
  nd : (t.ns.map (·.b)).Nodup
  kd : (t.ns.map (·.k)).Nodup
  ok : ∀ x ∈ t.ns, okS x.k
theorem AtT.mono {H H' : Heap} {l : TLo} {t : Tr} (h : AtT H l t) (hs : H.sub H') : AtT H' l t := ⟨hs _ _ h.hb, hs _ _ h.hm, fun x hx => hs _ _ (h.hn x hx), h.nd, h.kd, h.ok⟩
theorem fnd_mem {ns : List Nt} {k : Ky} {x : Nt} (h : fndN ns k = some x) : x ∈ ns ∧ x.k = k :=
  ⟨List.mem_of_find?_eq_some h, by have := List.find?_some h; simpa using this⟩
theorem getM_mpT (ns : List Nt) (k : Ky) : getM (mpT ns) k = (fndN ns k).map fun x => some x.b := by
  unfold getM fndN mpT
  rw [List.find?_map]
  simp [Function.comp_def]
theorem AtT.mok {H : Heap} {l : TLo} {t : Tr} (h : AtT H l t) : MOk okS (mpT t.ns) := by
  refine ⟨fun x hx => ?_, ?_⟩
  · obtain ⟨y, hy, rfl⟩ := List.mem_map.1 hx
    exact h.ok y hy
  · unfold mpT
    rw [List.map_map]
    exact h.kd
def pN (o : Option Nt) : D := .v (.pointer (o.map fun x => ⟨x.b, 0, none⟩))
theorem pN_get (ns : List Nt) (k : Ky) : vcB ((getM (mpT ns) k).getD none) = pN (fndN ns k) := by
  rw [getM_mpT]
  cases fndN ns k <;> rfl

abbrev pT (l : TLo) : D := .v (.pointer (some ⟨l.b, 0, none⟩))
abbrev dS (k : Ky) : D := .v (.string (strL k))

theorem AtT.cell {H : Heap} {l : TLo} {t : Tr} (h : AtT H l t) : H l.b = some (.cells [.v (.int .i64 t.p.vs), .v (.int .i64 t.p.ms), .list (thsC t.p.th), .v (.int .i64 t.fu), .v (.map (some l.m)), .v (.int .i64 t.cl)] 86) := h.hb
theorem AtT.node {H : Heap} {l : TLo} {t : Tr} (h : AtT H l t) {k : Ky} {x : Nt} (hx : t.fnd k = some x) : H x.b = some (.cells [.v (.int .i64 x.n.ow), .v (.int .u8 (x.n.sl.toNat : Int)), .v (.int .u8 (x.n.td.toNat : Int)), .v (.int .u8 (x.n.dn.toNat : Int))] 98) := h.hn x (fnd_mem hx).1

theorem find_call (W : World) (H : Heap) (l : TLo) (t : Tr) (h : AtT H l t) (k : Ky) (hk : okS k) :
    CallA Try.prog W 39 [pT l, dS k] H fun r H' => r = pN (t.fnd k) ∧ H' = H := by
  refine call_in Try.func39 rfl Try.ntmps39 (by simp) ?_
  have hb := h.cell
  repeat' (first
    | (with_reducible apply run_seq)
    | (with_reducible apply run_skip)
    | ((with_reducible apply run_go); simp only [go_sem, *])
    | ((with_reducible apply run_cond_f); (focus (simp only [go_sem, *]; done))))
  refine runO_lookupM mtNode (b := l.m) (l := mpT t.ns) (k := k) (by simp only [go_sem, *]) h.hm h.mok (by simp only [go_sem, *]; rfl) hk ?_
  rw [pN_get]
  (with_reducible apply runO_go); simp only [go_sem, *]
  repeat' (first
    | ((with_reducible apply run_ret Try.func39 res39 (H' := H)); (focus (simp only [go_sem, *]; rfl)); (focus trivial); (focus (repeat (first | assumption | exact Heap.sub_refl _ | refine Heap.sub_congr ?_ | refine Heap.sub_set ?_ (by assumption) | refine Heap.sub_set2 ?_ (by first | assumption | (simp only [*]; done) | (simp only [Heap.set_none', ne_eq, *, not_false_eq_true, and_self]; done)))))))
  exact ⟨rfl, rfl⟩
theorem nilFind_call (W : World) (H : Heap) (k : Ky) :
    CallA Try.prog W 39 [.v (.pointer none), dS k] H fun r H' => r = .v (.pointer none) ∧ H' = H := by
  refine call_in Try.func39 rfl Try.ntmps39 (by simp) ?_
  repeat' (first
    | (with_reducible apply run_seq)
    | ((with_reducible apply run_go); simp only [go_sem, *])
    | ((with_reducible apply run_cond_t); (focus (simp only [go_sem, *]; done)))
    | ((with_reducible apply run_ret Try.func39 res39 (H' := H)); (focus (simp only [go_sem, *]; rfl)); (focus trivial); (focus (repeat (first | assumption | exact Heap.sub_refl _ | refine Heap.sub_congr ?_ | refine Heap.sub_set ?_ (by assumption) | refine Heap.sub_set2 ?_ (by first | assumption | (simp only [*]; done) | (simp only [Heap.set_none', ne_eq, *, not_false_eq_true, and_self]; done)))))))
  exact ⟨rfl, rfl⟩
theorem left_call (W : World) (H : Heap) (b : Nat) (n : Nd) (h : H b = some (.cells [.v (.int .i64 n.ow), .v (.int .u8 (n.sl.toNat : Int)), .v (.int .u8 (n.td.toNat : Int)), .v (.int .u8 (n.dn.toNat : Int))] 98)) :
    CallA Try.prog W 43 [.v (.pointer (some ⟨b, 0, none⟩))] H fun r H' => r = .v (.int .u8 (n.left.toNat : Int)) ∧ H' = H := by
  refine call_in Try.func43 rfl Try.ntmps43 (by simp) ?_
  repeat' (first
    | (with_reducible apply run_seq)
    | ((with_reducible apply run_go); simp only [go_sem, *])
    | ((with_reducible apply run_drawGo Cl.zero Cl.zero_plain mixed); (focus kernel_rfl); simp only [go_sem, *])
    | ((with_reducible apply run_ret Try.func43 res43 (H' := H)); (focus (simp only [go_sem, *]; rfl)); (focus trivial); (focus (repeat (first | assumption | exact Heap.sub_refl _ | refine Heap.sub_congr ?_ | refine Heap.sub_set ?_ (by assumption) | refine Heap.sub_set2 ?_ (by first | assumption | (simp only [*]; done) | (simp only [Heap.set_none', ne_eq, *, not_false_eq_true, and_self]; done)))))))
  exact ⟨rfl, rfl⟩
end Go.Proofs.Ytcfeklnmampndaa
