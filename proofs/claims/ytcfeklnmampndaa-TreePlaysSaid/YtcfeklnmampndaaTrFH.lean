/-
  Several texts in one: TrF, TrG, TrH.
-/
import Derived.Test.YtcfeklnmampndaaTrE
set_option linter.unusedSimpArgs false
set_option linter.unusedVariables false
namespace Go.Proofs.Ytcfeklnmampndaa
open Go Go.Sn Go.RowKit
-- NONE stH_none

def Tr.new (p : Pg) (fuel : Int) : Tr := ⟨p, fuel, [], 0⟩
def NewT (p : Pg) (fuel : Int) (H : Heap) (d : D) (H' : Heap) : Prop :=
  (okN p fuel = true ∧ ∃ l : TLo, H l.b = none ∧ H l.m = none ∧ l.b ≠ l.m ∧ d = .tup [pT l, .v (.int .i64 0)] ∧ H' = (H.set l.m (.map [])).set l.b (.cells (trC (Tr.new p fuel) l.m) 86)) ∨
  (okN p fuel = false ∧ d = .tup [.v (.pointer none), .v (.int .i64 1)] ∧ H' = H)
theorem newT_at {H : Heap} {p : Pg} {fuel : Int} {l : TLo} (hne : l.b ≠ l.m) : AtT ((H.set l.m (.map [])).set l.b (.cells (trC (Tr.new p fuel) l.m) 86)) l (Tr.new p fuel) :=
  ⟨Heap.set_same _ _ _, by rw [Heap.set_other _ _ hne.symm]; exact Heap.set_same _ _ _, fun x hx => (by cases hx), by simp [Tr.new], by simp [Tr.new], fun x hx => (by cases hx)⟩
set_option maxHeartbeats 4000000 in
theorem newT_call (W : World) (H : Heap) (p : Pg) (fuel : Int) (hf : FewP p) (hc : ∀ c ∈ p.th, c.length ≤ 1000000) :
    CallA Try.prog W 10 [.agg (pgC p), .v (.int .i64 fuel)] H (NewT p fuel H) := by
  refine call_in Try.func10 rfl Try.ntmps10 (by simp) ?_
  have c2 := fun H => copyF_call W H p hf
  simp only [pgC] at c2 ⊢
  repeat' (first
    | (with_reducible apply run_seq)
    | ((with_reducible apply run_go); simp only [go_sem, *])
    | ((with_reducible apply runO_box); (focus (simp only [go_sem, *]; done)); intro pb hpb; have hfb := Heap.ne_of_none hpb; (try simp only [Heap.set_none', stH_none] at hpb); (with_reducible apply runO_go); simp only [go_sem, *]))
  generalize pb = p2 at *
  (with_reducible apply runO_callF known36); simp only [go_sem, *]
  refine (stNew_call W _ p fuel hc).mono (fun d1 H1 hh => ?_)
  rcases hh with ⟨hok, lo, hlb, hlc, hne, hcap, rfl, rfl⟩ | ⟨hno, rfl, hH⟩
  · have hp2 := hpb
    have hsub : (H.set p2 (.cells [.v (.int .i64 p.vs), .v (.int .i64 p.ms), .list (thsC p.th)] 24)).sub (stP (H.set p2 (.cells [.v (.int .i64 p.vs), .v (.int .i64 p.ms), .list (thsC p.th)] 24)) lo (newS p fuel)) := stH_subH hlb hlc
    (with_reducible apply runO_go); simp only [go_sem, *]
    refine run_drop hsub ?_
    clear hsub hlb hlc hcap hne
    have HOK : Hid _ := hok
    clear hok hpb
    repeat' (first
    | (with_reducible apply run_seq)
    | (with_reducible apply run_skip)
    | ((with_reducible apply run_go); simp only [go_sem, *])
    | ((with_reducible apply run_cond_f); (focus (simp only [go_sem, *]; done))))
    (first
    | ((with_reducible apply runO_callF known37); simp only [go_sem, *]; refine (c2 _).use ?_; (with_reducible apply runO_go); simp only [go_sem, *]))
    (first
    | ((with_reducible apply runO_makeMap); intro pb hpb; have hfb := Heap.ne_of_none hpb; (try simp only [Heap.set_none', stH_none] at hpb); (with_reducible apply runO_go); simp only [go_sem, *]))
    generalize pb = pm at *
    have hpm := hpb
    clear hpb
    repeat' (first
    | ((with_reducible apply runO_box); (focus (simp only [go_sem, *]; done)); intro pb hpb; have hfb := Heap.ne_of_none hpb; (try simp only [Heap.set_none', stH_none] at hpb); (with_reducible apply runO_go); simp only [go_sem, *])
    | ((with_reducible apply run_ret Try.func10 res10 (H' := (H.set pm (.map [])).set pb (.cells (trC (Tr.new p fuel) pm) 86))); (focus (simp only [go_sem, *]; rfl)); (focus trivial); (focus (repeat (first | assumption | exact Heap.sub_refl _ | refine Heap.sub_congr ?_ | refine Heap.sub_set ?_ (by assumption) | refine Heap.sub_set2 ?_ (by first | assumption | (simp only [*]; done) | (simp only [Heap.set_none', stH_none, ne_eq, *, not_false_eq_true, and_self]; done)))))))
    exact .inl ⟨HOK.out, ⟨pb, pm⟩, hpb.2.2, hpm.2, hpb.1.1, rfl, rfl⟩
  · obtain rfl := hH.symm
    (with_reducible apply runO_go); simp only [go_sem, *]
    repeat' (first
    | (with_reducible apply run_seq)
    | ((with_reducible apply run_go); simp only [go_sem, *])
    | ((with_reducible apply run_cond_t); (focus (simp only [go_sem, *]; done)))
    | ((with_reducible apply run_ret Try.func10 res10 (H' := H)); (focus (simp only [go_sem, *]; rfl)); (focus trivial); (focus (repeat (first | assumption | exact Heap.sub_refl _ | refine Heap.sub_congr ?_ | refine Heap.sub_set ?_ (by assumption) | refine Heap.sub_set2 ?_ (by first | assumption | (simp only [*]; done) | (simp only [Heap.set_none', stH_none, ne_eq, *, not_false_eq_true, and_self]; done)))))))
    exact .inr ⟨hno, rfl, rfl⟩
end Go.Proofs.Ytcfeklnmampndaa
set_option linter.unusedSimpArgs false
set_option linter.unusedVariables false
namespace Go.Proofs.Ytcfeklnmampndaa
open Go Go.Sn Go.RowKit
-- NONE stH_none

/-- A tree in `K`, all else being `H`. -/
structure AtF (H K : Heap) (l : TLo) (t : Tr) : Prop where
  ht : AtT K l t
  sub : H.sub K
  fb : H l.b = none
  fm : H l.m = none
  fn : ∀ x ∈ t.ns, H x.b = none
theorem sub_out {H K : Heap} {b : Nat} {r : Res} (h : H.sub K) (hb : H b = none) : H.sub (K.set b r) := fun q x hq => by
  have : q ≠ b := fun e => by rw [e, hb] at hq; cases hq
  rw [Heap.set_other _ _ this]
  exact h q x hq
theorem AtF.turn {H K : Heap} {l : TLo} {t : Tr} (h : AtF H K l t) {k : Ky} {x : Nt} (hx : t.fnd k = some x) (n : Nd) : AtF H (K.set x.b (.cells (ndC n) 98)) l (t.upd k n) := by
  refine ⟨h.ht.turn hx n, sub_out h.sub (h.fn x (fnd_mem hx).1), h.fb, h.fm, fun y hy => ?_⟩
  obtain ⟨z, hz, rfl⟩ := List.mem_map.1 hy
  split
  · exact h.fn z hz
  · exact h.fn z hz
theorem AtF.cla {H K : Heap} {l : TLo} {t : Tr} (h : AtF H K l t) {k : Ky} {x : Nt} (hx : t.fnd k = some x) (d : Int) :
    AtF H ((K.set x.b (.cells (ndC (x.n.cl d)) 98)).set l.b (.cells (trC (t.cla k x.n d) l.m) 86)) l (t.cla k x.n d) :=
  ⟨h.ht.cla hx d, sub_out (h.turn hx _).sub h.fb, h.fb, h.fm, (h.turn hx (x.n.cl d)).fn⟩
theorem AtF.put {H K : Heap} {l : TLo} {t : Tr} (h : AtF H K l t) {k : Ky} {b : Nat} (n : Nd) (hk : okS k) (hx : t.fnd k = none) (hb : K b = none) :
    AtF H ((K.set b (.cells (ndC n) 98)).set l.m (.map (mapT (t.put k b n).ns))) l (t.put k b n) := by
  have hbH : H b = none := by
    cases hq : H b with
    | none => rfl
    | some r => rw [h.sub _ _ hq] at hb; cases hb
  refine ⟨h.ht.put n hk hx hb, sub_out (sub_out h.sub hbH) h.fm, h.fb, h.fm, fun y hy => ?_⟩
  rcases List.mem_append.1 hy with hy | hy
  · exact h.fn y hy
  · rw [List.mem_singleton.1 hy]; exact hbH
/-- All else turns. -/
theorem AtF.beside {H K : Heap} {l : TLo} {t : Tr} (h : AtF H K l t) {p : Nat} {r0 : Res} (r : Res) (hp : H p = some r0) : AtF (H.set p r) (K.set p r) l t := by
  have n1 : l.b ≠ p := fun e => by rw [← e, h.fb] at hp; cases hp
  have n2 : l.m ≠ p := fun e => by rw [← e, h.fm] at hp; cases hp
  have n3 : ∀ x ∈ t.ns, x.b ≠ p := fun x hx e => by rw [← e, h.fn x hx] at hp; cases hp
  refine ⟨⟨by rw [Heap.set_other _ _ n1]; exact h.ht.hb, by rw [Heap.set_other _ _ n2]; exact h.ht.hm, fun x hx => by rw [Heap.set_other _ _ (n3 x hx)]; exact h.ht.hn x hx, h.ht.nd, h.ht.kd, h.ht.ok⟩, Heap.sub_congr h.sub, ?_, ?_, fun x hx => ?_⟩
  · rw [Heap.set_other _ _ n1]; exact h.fb
  · rw [Heap.set_other _ _ n2]; exact h.fm
  · rw [Heap.set_other _ _ (n3 x hx)]; exact h.fn x hx
/-- A new block beside it. -/
theorem AtF.fresh {H K : Heap} {l : TLo} {t : Tr} (h : AtF H K l t) {p : Nat} (r : Res) (hp : K p = none) : AtF (H.set p r) (K.set p r) l t := by
  have n1 : l.b ≠ p := fun e => by rw [← e, h.ht.hb] at hp; cases hp
  have n2 : l.m ≠ p := fun e => by rw [← e, h.ht.hm] at hp; cases hp
  have n3 : ∀ x ∈ t.ns, x.b ≠ p := fun x hx e => by rw [← e, h.ht.hn x hx] at hp; cases hp
  refine ⟨⟨by rw [Heap.set_other _ _ n1]; exact h.ht.hb, by rw [Heap.set_other _ _ n2]; exact h.ht.hm, fun x hx => by rw [Heap.set_other _ _ (n3 x hx)]; exact h.ht.hn x hx, h.ht.nd, h.ht.kd, h.ht.ok⟩, Heap.sub_congr h.sub, ?_, ?_, fun x hx => ?_⟩
  · rw [Heap.set_other _ _ n1]; exact h.fb
  · rw [Heap.set_other _ _ n2]; exact h.fm
  · rw [Heap.set_other _ _ (n3 x hx)]; exact h.fn x hx
theorem AtF.up {H K K' : Heap} {l : TLo} {t : Tr} (h : AtF H K l t) (hs : K.sub K') : AtF H K' l t := ⟨h.ht.mono hs, h.sub.trans hs, h.fb, h.fm, h.fn⟩
theorem AtF.none' {H K : Heap} {l : TLo} {t : Tr} (h : AtF H K l t) {q : Nat} (hq : K q = none) : H q = none := by
  cases hx : H q with
  | none => rfl
  | some r => rw [h.sub _ _ hx] at hq; cases hq
/-- Less else. -/
theorem AtF.less {H H0 K : Heap} {l : TLo} {t : Tr} (h : AtF H K l t) (hs : H0.sub H) : AtF H0 K l t := by
  have no : ∀ q, H q = none → H0 q = none := fun q hq => by
    cases hx : H0 q with
    | none => rfl
    | some r => rw [hs _ _ hx] at hq; cases hq
  exact ⟨h.ht, hs.trans h.sub, no _ h.fb, no _ h.fm, fun x hx => no _ (h.fn x hx)⟩
theorem newT_F {H K : Heap} {p : Pg} {fuel : Int} {l : TLo} (hs : H.sub K) (hb : K l.b = none) (hm : K l.m = none) (hne : l.b ≠ l.m) : AtF H ((K.set l.m (.map [])).set l.b (.cells (trC (Tr.new p fuel) l.m) 86)) l (Tr.new p fuel) := by
  have no : ∀ q, K q = none → H q = none := fun q hq => by
    cases hx : H q with
    | none => rfl
    | some r => rw [hs _ _ hx] at hq; cases hq
  exact ⟨newT_at hne, sub_out (sub_out hs (no _ hm)) (no _ hb), no _ hb, no _ hm, fun x hx => (by cases hx)⟩

/-- What always holds: every node's prefix can be done; the count. -/
structure OkN (t : Tr) (c : Int) : Prop where
  ok : OkT t
  can : ∀ x ∈ t.ns, (t.at x.k).1 = 0
  cl0 : 0 ≤ t.cl
  clc : t.cl ≤ c
theorem OkN.fnd {t : Tr} {c : Int} (h : OkN t c) {k : Ky} {x : Nt} (hx : t.fnd k = some x) : (t.at k).1 = 0 := by
  have := fnd_mem hx
  rw [← this.2]
  exact h.can x this.1

def Tr.mark (t : Tr) (k : Ky) (s : BitVec 8) : Tr := match t.fnd k with | none => t | some x => t.upd k (t.mkd k x.n s)
def Tr.mrE (t : Tr) (k : Ky) : Int := if (t.fnd k).isSome then 0 else 6
def Tr.hand (t : Tr) (k : Ky) (o : Int) : Tr := match t.fnd k with | none => t | some x => t.upd k { x.n with ow := o }
/-- What a claim tells; the tree behind it. -/
def Tr.clR (t : Tr) (k : Ky) (d : Int) : Int × BitVec 8 × Int := match t.fnd k with
  | none => (0, 0#8, 6)
  | some x => if x.n.left = 0#8 then (0, 0#8, 6) else (clT x.n d, chE (t.at k).2.2 x.n.sl x.n.dn (clT x.n d), 0)
def Tr.clm (t : Tr) (k : Ky) (d : Int) : Tr := match t.fnd k with
  | none => t
  | some x => if x.n.left = 0#8 then t else t.cla k x.n d
/-- The tree behind a making. -/
def Tr.Made (t : Tr) (k : Ky) (s : BitVec 8) (o : Int) (t' : Tr) : Prop := (t.mkE k ≠ 0 ∧ t' = t) ∨ (t.mkE k = 0 ∧ ∃ b, t' = t.put k b ⟨o, s, 0#8, 0#8⟩)

theorem OkT.upd {t : Tr} (h : OkT t) (k : Ky) (n : Nd) : OkT (t.upd k n) := ⟨h.ok, h.few⟩
theorem upd_can {t : Tr} (h : ∀ x ∈ t.ns, (t.at x.k).1 = 0) (k : Ky) (n : Nd) : ∀ x ∈ (t.upd k n).ns, ((t.upd k n).at x.k).1 = 0 := fun y hy => by
  obtain ⟨z, hz, rfl⟩ := List.mem_map.1 hy
  have := h z hz
  split <;> exact this
theorem OkN.mark {t : Tr} {c : Int} (h : OkN t c) (k : Ky) (s : BitVec 8) : OkN (t.mark k s) c := by
  unfold Tr.mark
  split
  · exact h
  · exact ⟨h.ok.upd _ _, upd_can h.can _ _, h.cl0, h.clc⟩
theorem OkN.hand {t : Tr} {c : Int} (h : OkN t c) (k : Ky) (o : Int) : OkN (t.hand k o) c := by
  unfold Tr.hand
  split
  · exact h
  · exact ⟨h.ok.upd _ _, upd_can h.can _ _, h.cl0, h.clc⟩
theorem OkN.clm {t : Tr} {c : Int} (h : OkN t c) (k : Ky) (d : Int) : OkN (t.clm k d) (c + 1) := by
  have h1 := h.cl0
  have h2 := h.clc
  unfold Tr.clm
  split
  · exact ⟨h.ok, h.can, h1, by omega⟩
  · split
    · exact ⟨h.ok, h.can, h1, by omega⟩
    · rename_i x hx he
      exact ⟨⟨h.ok.ok, h.ok.few⟩, upd_can h.can k (x.n.cl d), by show 0 ≤ t.cl + 1; omega, by show t.cl + 1 ≤ c + 1; omega⟩
theorem OkN.made {t t' : Tr} {c : Int} (h : OkN t c) {k : Ky} {s : BitVec 8} {o : Int} (hm : t.Made k s o t') : OkN t' c := by
  rcases hm with ⟨_, rfl⟩ | ⟨h0, b, rfl⟩
  · exact h
  · refine ⟨⟨h.ok.ok, h.ok.few⟩, fun x hx => ?_, h.cl0, h.clc⟩
    rcases List.mem_append.1 hx with hx | hx
    · exact h.can x hx
    · rw [List.mem_singleton.1 hx]; exact (mkE_ok h0).1
theorem OkN.more {t : Tr} {c c' : Int} (h : OkN t c) (hc : c ≤ c') : OkN t c' := ⟨h.ok, h.can, h.cl0, Int.le_trans h.clc hc⟩
theorem okN_new {p : Pg} {fuel : Int} (h : okN p fuel = true) (hc : ∀ c ∈ p.th, c.length ≤ 1000000) : OkN (Tr.new p fuel) 0 := ⟨⟨h, hc⟩, fun x hx => (by cases hx), Int.le_refl 0, Int.le_refl 0⟩

section
variable {H K : Heap} {l : TLo} {t : Tr} {c : Int}
theorem makeF (W : World) (h : AtF H K l t) (ho : OkN t c) (k : Ky) (hk : okS k) (s : BitVec 8) (o : Int) :
    CallA Try.prog W 13 [pT l, dS k, .v (.int .u8 (s.toNat : Int)), .v (.int .i64 o)] K fun r K' => r = .v (.int .i64 (t.mkE k)) ∧ ∃ t', t.Made k s o t' ∧ AtF H K' l t' := by
  by_cases he : t.mkE k = 0
  · refine (make_ok W K l t h.ht ho.ok k hk s o he).mono fun r K' hh => ?_
    obtain ⟨rfl, b, hb, rfl⟩ := hh
    exact ⟨by rw [he], _, .inr ⟨he, b, rfl⟩, h.put _ hk (mkE_ok he).2.1 hb⟩
  · refine (make_no W K l t h.ht ho.ok k hk s o he).mono fun r K' hh => ?_
    obtain ⟨rfl, hK⟩ := hh
    exact ⟨rfl, t, .inl ⟨he, rfl⟩, by rw [hK]; exact h⟩
theorem markF (W : World) (h : AtF H K l t) (ho : OkN t c) (k : Ky) (hk : okS k) (s : BitVec 8) :
    CallA Try.prog W 15 [pT l, dS k, .v (.int .u8 (s.toNat : Int))] K fun r K' => r = .v (.int .i64 (t.mrE k)) ∧ AtF H K' l (t.mark k s) := by
  unfold Tr.mrE Tr.mark
  cases hx : t.fnd k with
  | none =>
    refine (mark_none W K l t h.ht k hk s hx).mono fun r K' hh => ?_
    exact ⟨hh.1, by rw [hh.2]; exact h⟩
  | some x =>
    refine (mark_some W K l t h.ht ho.ok k hk s hx (ho.fnd hx)).mono fun r K' hh => ?_
    exact ⟨hh.1, by rw [hh.2]; exact h.turn hx _⟩
theorem handF (W : World) (h : AtF H K l t) (k : Ky) (hk : okS k) (o : Int) :
    CallA Try.prog W 21 [pT l, dS k, .v (.int .i64 o)] K fun r K' => r = .v (.int .i64 (t.mrE k)) ∧ AtF H K' l (t.hand k o) := by
  unfold Tr.mrE Tr.hand
  cases hx : t.fnd k with
  | none =>
    refine (hand_none W K l t h.ht k hk o hx).mono fun r K' hh => ?_
    exact ⟨hh.1, by rw [hh.2]; exact h⟩
  | some x =>
    refine (hand_some W K l t h.ht k hk o hx).mono fun r K' hh => ?_
    exact ⟨hh.1, by rw [hh.2]; exact h.turn hx _⟩
theorem claimF (W : World) (h : AtF H K l t) (ho : OkN t c) (hc : c ≤ 1000000) (k : Ky) (hk : okS k) (d : Int) :
    CallA Try.prog W 17 [pT l, dS k, .v (.int .i64 d)] K fun r K' =>
      r = .tup [.v (.int .i64 (t.clR k d).1), .v (.int .u8 ((t.clR k d).2.1.toNat : Int)), .v (.int .i64 (t.clR k d).2.2)] ∧ AtF H K' l (t.clm k d) := by
  have hlf : t.fnd k = none → t.lf k = [] := fun hx => by unfold Tr.lf; rw [hx]
  have hls : ∀ x, t.fnd k = some x → t.lf k = allB x.n.left 8 := fun x hx => by unfold Tr.lf; rw [hx]
  unfold Tr.clR Tr.clm
  cases hx : t.fnd k with
  | none =>
    refine (claim_no W K l t h.ht k hk d (hlf hx)).mono fun r K' hh => ?_
    exact ⟨hh.1, by rw [hh.2]; exact h⟩
  | some x =>
    simp only
    by_cases he : x.n.left = 0#8
    · rw [if_pos he, if_pos he]
      refine (claim_no W K l t h.ht k hk d (by rw [hls x hx, allB_nil]; exact he)).mono fun r K' hh => ?_
      exact ⟨hh.1, by rw [hh.2]; exact h⟩
    · rw [if_neg he, if_neg he]
      refine (claim_ok W K l t h.ht ho.ok k hk d hx he (ho.fnd hx) ⟨ho.cl0, Int.le_trans ho.clc hc⟩).mono fun r K' hh => ?_
      exact ⟨hh.1, by rw [hh.2]; exact h.cla hx d⟩
end
end Go.Proofs.Ytcfeklnmampndaa
set_option linter.unusedSimpArgs false
set_option linter.unusedVariables false
namespace Go.Proofs.Ytcfeklnmampndaa
open Go Go.Sn Go.RowKit
-- NONE stH_none

/-- A call. -/
structure Cl1 where
  kd : Int
  n : Int
  pf : Ky
  st : BitVec 8
instance : Inhabited Cl1 := ⟨⟨0, 0, [], 0#8⟩⟩
def clC (o : Cl1) : List D := [.v (.int .i64 o.kd), .v (.int .i64 o.n), .v (.string (strL o.pf)), .v (.int .u8 (o.st.toNat : Int))]
@[go_sem] theorem clC_eq (o : Cl1) : clC o = [.v (.int .i64 o.kd), .v (.int .i64 o.n), .v (.string (strL o.pf)), .v (.int .u8 (o.st.toNat : Int))] := rfl
def clsC (l : List Cl1) : List (List D) := l.map clC
@[go_sem] theorem clsC_length (l : List Cl1) : (clsC l).length = l.length := by simp [clsC]
@[go_sem] theorem clsC_get (l : List Cl1) (n : Nat) (h : n < l.length) : (clsC l).getD n [] = clC (l.getD n default) := by simp [clsC, List.getD, h]
theorem clsC_all (l : List Cl1) : ∀ ds ∈ clsC l, ds.length = 4 := by intro ds h; simp only [clsC, List.mem_map] at h; obtain ⟨n, _, rfl⟩ := h; rfl
def fewO (l : List Cl1) : Bool := l.all (fun o => decide (o.pf.length ≤ 40)) && decide (l.length ≤ 100)
theorem fewO_call (W : World) (H : Heap) (l : List Cl1) (hl : l.length ≤ 4000000000000000) :
    CallA Try.prog W 9 [.list (clsC l)] H fun r H' => r = .v (.bool (fewO l)) ∧ H' = H := by
  refine call_in Try.func9 rfl Try.ntmps9 (by simp) ?_
  have hal := clsC_all l
  unfold fewO
  repeat' (first
    | (with_reducible apply run_seq)
    | (with_reducible apply run_block)
    | ((with_reducible apply run_go); simp only [go_sem, *]))
  refine run_loop (fun na ea Ha => ∃ (k : Nat), k ≤ l.length ∧ na = l.length - k ∧ ((l.take k).all (fun o => decide (o.pf.length ≤ 40)) = true) ∧ ea 0 = .list (clsC l) ∧ ea 5 = .list (clsC l) ∧ ea 6 = .v (.int .i64 (l.length : Int)) ∧ ea 7 = .v (.int .i64 (k : Int)) ∧ H = Ha) (l.length)
      ⟨0, Nat.zero_le _, rfl, (by simp), (by simp only [go_sem, *]), (by simp only [go_sem, *]), (by simp only [go_sem, *]), (by simp only [go_sem] <;> rfl), rfl⟩ ?_
  rintro na ea Ha ih ⟨k, ak, rfl, va0, as0, as5, as6, as7, rfl⟩
  have IHa : Hid _ := ih
  clear ih
  have Ia0 : Hid _ := va0
  clear va0
  by_cases hlt : k < l.length
  · have hw := wrap_succ (k := k) (by omega)
    generalize ho : l.getD k default = o at *
    by_cases hp : o.pf.length ≤ 40
    · have hp' : ¬ (40 : Int) < (o.pf.length : Int) := by omega
      have hn := all_take_succG (p := fun o : Cl1 => decide (o.pf.length ≤ 40)) hlt Ia0.out (by rw [ho]; simpa using hp)
      have HN : Hid _ := hn
      clear hn hp
      repeat' (first
    | (with_reducible apply run_seq)
    | (with_reducible apply run_block)
    | (with_reducible apply run_inBlock)
    | (with_reducible apply run_skip)
    | ((with_reducible apply run_go); simp only [go_sem, *])
    | ((with_reducible apply run_cond_t); (focus (simp only [go_sem, *]; done)))
    | ((with_reducible apply run_cond_f); (focus (simp only [go_sem, *]; done)))
    | ((with_reducible apply runO_alloc); (focus (simp only [go_sem, *]; rfl)); intro pb hpb; have hfb := Heap.ne_of_none hpb; (try simp only [Heap.set_none', stH_none] at hpb); (with_reducible apply runO_go); simp only [go_sem, *])
    | ((with_reducible apply runO_store); (focus (simp only [go_sem]; rfl)); (focus (simp only [go_sem, *]; rfl)); (focus (simp only [go_sem, *]; rfl)); (focus (simp only [go_sem, *]; done)); (focus (simp only [go_sem, *]; done)); (focus (simp only [go_sem, *]; done)); (with_reducible apply runO_go); simp only [go_sem, *, Heap.set_set]))
      refine run_drop (H' := H) (by (repeat (first | assumption | exact Heap.sub_refl _ | refine Heap.sub_congr ?_ | refine Heap.sub_set ?_ (by assumption) | refine Heap.sub_set2 ?_ (by first | assumption | (simp only [*]; done) | (simp only [Heap.set_none', stH_none, ne_eq, *, not_false_eq_true, and_self]; done)))); done) ?_
      refine IHa.out (l.length - (k + 1)) _ _ (by omega) ⟨k + 1, by omega, rfl, HN.out, (by simp only [go_sem, *]), (by simp only [go_sem, *]), (by simp only [go_sem, *]), (by simp only [go_sem, *]), rfl⟩
    · have hp' : (40 : Int) < (o.pf.length : Int) := by omega
      have hn := all_notG (p := fun o : Cl1 => decide (o.pf.length ≤ 40)) hlt (by rw [ho]; simpa using hp)
      rw [hn]
      clear hn hp
      repeat' (first
    | (with_reducible apply run_seq)
    | (with_reducible apply run_block)
    | (with_reducible apply run_skip)
    | ((with_reducible apply run_go); simp only [go_sem, *])
    | ((with_reducible apply run_cond_t); (focus (simp only [go_sem, *]; done)))
    | ((with_reducible apply runO_alloc); (focus (simp only [go_sem, *]; rfl)); intro pb hpb; have hfb := Heap.ne_of_none hpb; (try simp only [Heap.set_none', stH_none] at hpb); (with_reducible apply runO_go); simp only [go_sem, *])
    | ((with_reducible apply runO_store); (focus (simp only [go_sem]; rfl)); (focus (simp only [go_sem, *]; rfl)); (focus (simp only [go_sem, *]; rfl)); (focus (simp only [go_sem, *]; done)); (focus (simp only [go_sem, *]; done)); (focus (simp only [go_sem, *]; done)); (with_reducible apply runO_go); simp only [go_sem, *, Heap.set_set])
    | ((with_reducible apply run_ret Try.func9 res9 (H' := H)); (focus (simp only [go_sem, *]; rfl)); (focus trivial); (focus (repeat (first | assumption | exact Heap.sub_refl _ | refine Heap.sub_congr ?_ | refine Heap.sub_set ?_ (by assumption) | refine Heap.sub_set2 ?_ (by first | assumption | (simp only [*]; done) | (simp only [Heap.set_none', stH_none, ne_eq, *, not_false_eq_true, and_self]; done)))))))
      exact ⟨rfl, rfl⟩
  · obtain rfl : k = l.length := by omega
    have hn := Ia0.out
    rw [List.take_length] at hn
    rw [hn]
    repeat' (first
    | (with_reducible apply run_seq)
    | (with_reducible apply run_exit rfl)
    | ((with_reducible apply run_go); simp only [go_sem, *])
    | ((with_reducible apply run_cond_f); (focus (simp only [go_sem, *]; done)))
    | ((with_reducible apply run_ret Try.func9 res9 (H' := H)); (focus (simp only [go_sem, *]; rfl)); (focus trivial); (focus (repeat (first | assumption | exact Heap.sub_refl _ | refine Heap.sub_congr ?_ | refine Heap.sub_set ?_ (by assumption) | refine Heap.sub_set2 ?_ (by first | assumption | (simp only [*]; done) | (simp only [Heap.set_none', stH_none, ne_eq, *, not_false_eq_true, and_self]; done)))))))
    refine ⟨vb ?_, rfl⟩
    simp
    omega

theorem nilMake_call (W : World) (H : Heap) (k : Ky) (s : BitVec 8) (o : Int) :
    CallA Try.prog W 13 [.v (.pointer none), dS k, .v (.int .u8 (s.toNat : Int)), .v (.int .i64 o)] H fun r H' => r = .v (.int .i64 8) ∧ H' = H := by
  refine call_in Try.func13 rfl Try.ntmps13 (by simp) ?_
  have c1 := fun H => nilAt_call W H k
  repeat' (first
    | (with_reducible apply run_seq)
    | (with_reducible apply run_block)
    | ((with_reducible apply run_go); simp only [go_sem, *])
    | ((with_reducible apply run_cond_t); (focus (simp only [go_sem, *]; done)))
    | ((with_reducible apply runO_callF known24); simp only [go_sem, *]; refine (c1 _).use ?_; (with_reducible apply runO_go); simp only [go_sem, *])
    | ((with_reducible apply run_ret Try.func13 res13 (H' := H)); (focus (simp only [go_sem, *]; rfl)); (focus trivial); (focus (repeat (first | assumption | exact Heap.sub_refl _ | refine Heap.sub_congr ?_ | refine Heap.sub_set ?_ (by assumption) | refine Heap.sub_set2 ?_ (by first | assumption | (simp only [*]; done) | (simp only [Heap.set_none', stH_none, ne_eq, *, not_false_eq_true, and_self]; done)))))))
  exact ⟨rfl, rfl⟩
theorem nilMark_call (W : World) (H : Heap) (k : Ky) (s : BitVec 8) :
    CallA Try.prog W 15 [.v (.pointer none), dS k, .v (.int .u8 (s.toNat : Int))] H fun r H' => r = .v (.int .i64 8) ∧ H' = H := by
  refine call_in Try.func15 rfl Try.ntmps15 (by simp) ?_
  have c1 := fun H => nilFind_call W H k
  repeat' (first
    | (with_reducible apply run_seq)
    | (with_reducible apply run_block)
    | ((with_reducible apply run_go); simp only [go_sem, *])
    | ((with_reducible apply run_cond_t); (focus (simp only [go_sem, *]; done)))
    | ((with_reducible apply runO_callF known39); simp only [go_sem, *]; refine (c1 _).use ?_; (with_reducible apply runO_go); simp only [go_sem, *])
    | ((with_reducible apply run_ret Try.func15 res15 (H' := H)); (focus (simp only [go_sem, *]; rfl)); (focus trivial); (focus (repeat (first | assumption | exact Heap.sub_refl _ | refine Heap.sub_congr ?_ | refine Heap.sub_set ?_ (by assumption) | refine Heap.sub_set2 ?_ (by first | assumption | (simp only [*]; done) | (simp only [Heap.set_none', stH_none, ne_eq, *, not_false_eq_true, and_self]; done)))))))
  exact ⟨rfl, rfl⟩
theorem nilClaim_call (W : World) (H : Heap) (k : Ky) (d : Int) :
    CallA Try.prog W 17 [.v (.pointer none), dS k, .v (.int .i64 d)] H fun r H' => r = .tup [.v (.int .i64 0), .v (.int .u8 0), .v (.int .i64 8)] ∧ H' = H := by
  refine call_in Try.func17 rfl Try.ntmps17 (by simp) ?_
  have c1 := fun H => nilFind_call W H k
  repeat' (first
    | (with_reducible apply run_seq)
    | (with_reducible apply run_block)
    | ((with_reducible apply run_go); simp only [go_sem, *])
    | ((with_reducible apply run_cond_t); (focus (simp only [go_sem, *]; done)))
    | ((with_reducible apply runO_callF known39); simp only [go_sem, *]; refine (c1 _).use ?_; (with_reducible apply runO_go); simp only [go_sem, *])
    | ((with_reducible apply run_ret Try.func17 res17 (H' := H)); (focus (simp only [go_sem, *]; rfl)); (focus trivial); (focus (repeat (first | assumption | exact Heap.sub_refl _ | refine Heap.sub_congr ?_ | refine Heap.sub_set ?_ (by assumption) | refine Heap.sub_set2 ?_ (by first | assumption | (simp only [*]; done) | (simp only [Heap.set_none', stH_none, ne_eq, *, not_false_eq_true, and_self]; done)))))))
  exact ⟨rfl, rfl⟩
theorem nilHand_call (W : World) (H : Heap) (k : Ky) (o : Int) :
    CallA Try.prog W 21 [.v (.pointer none), dS k, .v (.int .i64 o)] H fun r H' => r = .v (.int .i64 8) ∧ H' = H := by
  refine call_in Try.func21 rfl Try.ntmps21 (by simp) ?_
  have c1 := fun H => nilFind_call W H k
  repeat' (first
    | (with_reducible apply run_seq)
    | (with_reducible apply run_block)
    | ((with_reducible apply run_go); simp only [go_sem, *])
    | ((with_reducible apply run_cond_t); (focus (simp only [go_sem, *]; done)))
    | ((with_reducible apply runO_callF known39); simp only [go_sem, *]; refine (c1 _).use ?_; (with_reducible apply runO_go); simp only [go_sem, *])
    | ((with_reducible apply run_ret Try.func21 res21 (H' := H)); (focus (simp only [go_sem, *]; rfl)); (focus trivial); (focus (repeat (first | assumption | exact Heap.sub_refl _ | refine Heap.sub_congr ?_ | refine Heap.sub_set ?_ (by assumption) | refine Heap.sub_set2 ?_ (by first | assumption | (simp only [*]; done) | (simp only [Heap.set_none', stH_none, ne_eq, *, not_false_eq_true, and_self]; done)))))))
  exact ⟨rfl, rfl⟩
theorem nilLeft_call (W : World) (H : Heap) (k : Ky) :
    CallA Try.prog W 27 [.v (.pointer none), dS k] H fun r H' => r = .list [] ∧ H' = H := by
  refine call_in Try.func27 rfl Try.ntmps27 (by simp) ?_
  have c1 := fun H => nilFind_call W H k
  repeat' (first
    | (with_reducible apply run_seq)
    | ((with_reducible apply run_go); simp only [go_sem, *])
    | ((with_reducible apply run_cond_t); (focus (simp only [go_sem, *]; done)))
    | ((with_reducible apply runO_callF known39); simp only [go_sem, *]; refine (c1 _).use ?_; (with_reducible apply runO_go); simp only [go_sem, *])
    | ((with_reducible apply run_ret Try.func27 res27 (H' := H)); (focus (simp only [go_sem, *]; rfl)); (focus trivial); (focus (repeat (first | assumption | exact Heap.sub_refl _ | refine Heap.sub_congr ?_ | refine Heap.sub_set ?_ (by assumption) | refine Heap.sub_set2 ?_ (by first | assumption | (simp only [*]; done) | (simp only [Heap.set_none', stH_none, ne_eq, *, not_false_eq_true, and_self]; done)))))))
  exact ⟨rfl, rfl⟩
theorem nilOwner_call (W : World) (H : Heap) (k : Ky) :
    CallA Try.prog W 26 [.v (.pointer none), dS k] H fun r H' => r = .v (.int .i64 (-1)) ∧ H' = H := by
  refine call_in Try.func26 rfl Try.ntmps26 (by simp) ?_
  have c1 := fun H => nilFind_call W H k
  repeat' (first
    | (with_reducible apply run_seq)
    | ((with_reducible apply run_go); simp only [go_sem, *])
    | ((with_reducible apply run_cond_t); (focus (simp only [go_sem, *]; done)))
    | ((with_reducible apply runO_callF known39); simp only [go_sem, *]; refine (c1 _).use ?_; (with_reducible apply runO_go); simp only [go_sem, *])
    | ((with_reducible apply run_ret Try.func26 res26 (H' := H)); (focus (simp only [go_sem, *]; rfl)); (focus trivial); (focus (repeat (first | assumption | exact Heap.sub_refl _ | refine Heap.sub_congr ?_ | refine Heap.sub_set ?_ (by assumption) | refine Heap.sub_set2 ?_ (by first | assumption | (simp only [*]; done) | (simp only [Heap.set_none', stH_none, ne_eq, *, not_false_eq_true, and_self]; done)))))))
  exact ⟨rfl, rfl⟩
theorem nilAsleep_call (W : World) (H : Heap) (k : Ky) :
    CallA Try.prog W 28 [.v (.pointer none), dS k] H fun r H' => r = .v (.int .u8 0) ∧ H' = H := by
  refine call_in Try.func28 rfl Try.ntmps28 (by simp) ?_
  have c1 := fun H => nilFind_call W H k
  repeat' (first
    | (with_reducible apply run_seq)
    | ((with_reducible apply run_go); simp only [go_sem, *])
    | ((with_reducible apply run_cond_t); (focus (simp only [go_sem, *]; done)))
    | ((with_reducible apply runO_callF known39); simp only [go_sem, *]; refine (c1 _).use ?_; (with_reducible apply runO_go); simp only [go_sem, *])
    | ((with_reducible apply run_ret Try.func28 res28 (H' := H)); (focus (simp only [go_sem, *]; rfl)); (focus trivial); (focus (repeat (first | assumption | exact Heap.sub_refl _ | refine Heap.sub_congr ?_ | refine Heap.sub_set ?_ (by assumption) | refine Heap.sub_set2 ?_ (by first | assumption | (simp only [*]; done) | (simp only [Heap.set_none', stH_none, ne_eq, *, not_false_eq_true, and_self]; done)))))))
  exact ⟨rfl, rfl⟩
theorem nilLen_call (W : World) (H : Heap) : CallA Try.prog W 29 [.v (.pointer none)] H fun r H' => r = .v (.int .i64 0) ∧ H' = H := by
  refine call_in Try.func29 rfl Try.ntmps29 (by simp) ?_
  repeat' (first
    | (with_reducible apply run_seq)
    | ((with_reducible apply run_go); simp only [go_sem, *])
    | ((with_reducible apply run_cond_t); (focus (simp only [go_sem, *]; done)))
    | ((with_reducible apply run_ret Try.func29 res29 (H' := H)); (focus (simp only [go_sem, *]; rfl)); (focus trivial); (focus (repeat (first | assumption | exact Heap.sub_refl _ | refine Heap.sub_congr ?_ | refine Heap.sub_set ?_ (by assumption) | refine Heap.sub_set2 ?_ (by first | assumption | (simp only [*]; done) | (simp only [Heap.set_none', stH_none, ne_eq, *, not_false_eq_true, and_self]; done)))))))
  exact ⟨rfl, rfl⟩
theorem nilClaims_call (W : World) (H : Heap) : CallA Try.prog W 30 [.v (.pointer none)] H fun r H' => r = .v (.int .i64 0) ∧ H' = H := by
  refine call_in Try.func30 rfl Try.ntmps30 (by simp) ?_
  repeat' (first
    | (with_reducible apply run_seq)
    | ((with_reducible apply run_go); simp only [go_sem, *])
    | ((with_reducible apply run_cond_t); (focus (simp only [go_sem, *]; done)))
    | ((with_reducible apply run_ret Try.func30 res30 (H' := H)); (focus (simp only [go_sem, *]; rfl)); (focus trivial); (focus (repeat (first | assumption | exact Heap.sub_refl _ | refine Heap.sub_congr ?_ | refine Heap.sub_set ?_ (by assumption) | refine Heap.sub_set2 ?_ (by first | assumption | (simp only [*]; done) | (simp only [Heap.set_none', stH_none, ne_eq, *, not_false_eq_true, and_self]; done)))))))
  exact ⟨rfl, rfl⟩
end Go.Proofs.Ytcfeklnmampndaa
