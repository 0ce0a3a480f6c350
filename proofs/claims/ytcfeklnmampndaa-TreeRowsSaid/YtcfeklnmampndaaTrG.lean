/-
  Trees beside all else: what calls turn.
-/
import Derived.Test.YtcfeklnmampndaaTrF
set_option linter.unusedSimpArgs false
set_option linter.unusedVariables false
namespace Go.Proofs.Ytcfeklnmampndaa
open Go Go.Sn Go.RowKit
-- NONE stH_none

/-- A tree in `K`, all else being `H`. -/
structure AtF (H K : Heap) (l : TLo) (t : Tr) : Prop where
  ht : AtT K l t
  sub : H.sub K
  fb : H l.b = none
  fm : H l.m = none
  fn : ∀ x ∈ t.ns, H x.b = none
theorem sub_out {H K : Heap} {b : Nat} {r : Res} (h : H.sub K) (hb : H b = none) : H.sub (K.set b r) := fun q x hq => by
  have : q ≠ b := fun e => by rw [e, hb] at hq; cases hq
  rw [Heap.set_other _ _ this]
  exact h q x hq
theorem AtF.turn {H K : Heap} {l : TLo} {t : Tr} (h : AtF H K l t) {k : Ky} {x : Nt} (hx : t.fnd k = some x) (n : Nd) : AtF H (K.set x.b (.cells (ndC n) 98)) l (t.upd k n) := by
  refine ⟨h.ht.turn hx n, sub_out h.sub (h.fn x (fnd_mem hx).1), h.fb, h.fm, fun y hy => ?_⟩
  obtain ⟨z, hz, rfl⟩ := List.mem_map.1 hy
  split
  · exact h.fn z hz
  · exact h.fn z hz
theorem AtF.cla {H K : Heap} {l : TLo} {t : Tr} (h : AtF H K l t) {k : Ky} {x : Nt} (hx : t.fnd k = some x) (d : Int) :
    AtF H ((K.set x.b (.cells (ndC (x.n.cl d)) 98)).set l.b (.cells (trC (t.cla k x.n d) l.m) 86)) l (t.cla k x.n d) :=
  ⟨h.ht.cla hx d, sub_out (h.turn hx _).sub h.fb, h.fb, h.fm, (h.turn hx (x.n.cl d)).fn⟩
theorem AtF.put {H K : Heap} {l : TLo} {t : Tr} (h : AtF H K l t) {k : Ky} {b : Nat} (n : Nd) (hk : okS k) (hx : t.fnd k = none) (hb : K b = none) :
    AtF H ((K.set b (.cells (ndC n) 98)).set l.m (.map (mapT (t.put k b n).ns))) l (t.put k b n) := by
  have hbH : H b = none := by
    cases hq : H b with
    | none => rfl
    | some r => rw [h.sub _ _ hq] at hb; cases hb
  refine ⟨h.ht.put n hk hx hb, sub_out (sub_out h.sub hbH) h.fm, h.fb, h.fm, fun y hy => ?_⟩
  rcases List.mem_append.1 hy with hy | hy
  · exact h.fn y hy
  · rw [List.mem_singleton.1 hy]; exact hbH
/-- All else turns. -/
theorem AtF.beside {H K : Heap} {l : TLo} {t : Tr} (h : AtF H K l t) {p : Nat} {r0 : Res} (r : Res) (hp : H p = some r0) : AtF (H.set p r) (K.set p r) l t := by
  have n1 : l.b ≠ p := fun e => by rw [← e, h.fb] at hp; cases hp
  have n2 : l.m ≠ p := fun e => by rw [← e, h.fm] at hp; cases hp
  have n3 : ∀ x ∈ t.ns, x.b ≠ p := fun x hx e => by rw [← e, h.fn x hx] at hp; cases hp
  refine ⟨⟨by rw [Heap.set_other _ _ n1]; exact h.ht.hb, by rw [Heap.set_other _ _ n2]; exact h.ht.hm, fun x hx => by rw [Heap.set_other _ _ (n3 x hx)]; exact h.ht.hn x hx, h.ht.nd, h.ht.kd, h.ht.ok⟩, Heap.sub_congr h.sub, ?_, ?_, fun x hx => ?_⟩
  · rw [Heap.set_other _ _ n1]; exact h.fb
  · rw [Heap.set_other _ _ n2]; exact h.fm
  · rw [Heap.set_other _ _ (n3 x hx)]; exact h.fn x hx
/-- A new block beside it. -/
theorem AtF.fresh {H K : Heap} {l : TLo} {t : Tr} (h : AtF H K l t) {p : Nat} (r : Res) (hp : K p = none) : AtF (H.set p r) (K.set p r) l t := by
  have n1 : l.b ≠ p := fun e => by rw [← e, h.ht.hb] at hp; cases hp
  have n2 : l.m ≠ p := fun e => by rw [← e, h.ht.hm] at hp; cases hp
  have n3 : ∀ x ∈ t.ns, x.b ≠ p := fun x hx e => by rw [← e, h.ht.hn x hx] at hp; cases hp
  refine ⟨⟨by rw [Heap.set_other _ _ n1]; exact h.ht.hb, by rw [Heap.set_other _ _ n2]; exact h.ht.hm, fun x hx => by rw [Heap.set_other _ _ (n3 x hx)]; exact h.ht.hn x hx, h.ht.nd, h.ht.kd, h.ht.ok⟩, Heap.sub_congr h.sub, ?_, ?_, fun x hx => ?_⟩
  · rw [Heap.set_other _ _ n1]; exact h.fb
  · rw [Heap.set_other _ _ n2]; exact h.fm
  · rw [Heap.set_other _ _ (n3 x hx)]; exact h.fn x hx
theorem AtF.up {H K K' : Heap} {l : TLo} {t : Tr} (h : AtF H K l t) (hs : K.sub K') : AtF H K' l t := ⟨h.ht.mono hs, h.sub.trans hs, h.fb, h.fm, h.fn⟩
theorem AtF.none' {H K : Heap} {l : TLo} {t : Tr} (h : AtF H K l t) {q : Nat} (hq : K q = none) : H q = none := by
  cases hx : H q with
  | none => rfl
  | some r => rw [h.sub _ _ hx] at hq; cases hq
/-- Less else. -/
theorem AtF.less {H H0 K : Heap} {l : TLo} {t : Tr} (h : AtF H K l t) (hs : H0.sub H) : AtF H0 K l t := by
  have no : ∀ q, H q = none → H0 q = none := fun q hq => by
    cases hx : H0 q with
    | none => rfl
    | some r => rw [hs _ _ hx] at hq; cases hq
  exact ⟨h.ht, hs.trans h.sub, no _ h.fb, no _ h.fm, fun x hx => no _ (h.fn x hx)⟩
theorem newT_F {H K : Heap} {p : Pg} {fuel : Int} {l : TLo} (hs : H.sub K) (hb : K l.b = none) (hm : K l.m = none) (hne : l.b ≠ l.m) : AtF H ((K.set l.m (.map [])).set l.b (.cells (trC (Tr.new p fuel) l.m) 86)) l (Tr.new p fuel) := by
  have no : ∀ q, K q = none → H q = none := fun q hq => by
    cases hx : H q with
    | none => rfl
    | some r => rw [hs _ _ hx] at hq; cases hq
  exact ⟨newT_at hne, sub_out (sub_out hs (no _ hm)) (no _ hb), no _ hb, no _ hm, fun x hx => (by cases hx)⟩

/-- What always holds: every node's prefix can be done; the count. -/
structure OkN (t : Tr) (c : Int) : Prop where
  ok : OkT t
  can : ∀ x ∈ t.ns, (t.at x.k).1 = 0
  cl0 : 0 ≤ t.cl
  clc : t.cl ≤ c
theorem OkN.fnd {t : Tr} {c : Int} (h : OkN t c) {k : Ky} {x : Nt} (hx : t.fnd k = some x) : (t.at k).1 = 0 := by
  have := fnd_mem hx
  rw [← this.2]
  exact h.can x this.1

def Tr.mark (t : Tr) (k : Ky) (s : BitVec 8) : Tr := match t.fnd k with | none => t | some x => t.upd k (t.mkd k x.n s)
def Tr.mrE (t : Tr) (k : Ky) : Int := if (t.fnd k).isSome then 0 else 6
def Tr.hand (t : Tr) (k : Ky) (o : Int) : Tr := match t.fnd k with | none => t | some x => t.upd k { x.n with ow := o }
/-- What a claim tells; the tree behind it. -/
def Tr.clR (t : Tr) (k : Ky) (d : Int) : Int × BitVec 8 × Int := match t.fnd k with
  | none => (0, 0#8, 6)
  | some x => if x.n.left = 0#8 then (0, 0#8, 6) else (clT x.n d, chE (t.at k).2.2 x.n.sl x.n.dn (clT x.n d), 0)
def Tr.clm (t : Tr) (k : Ky) (d : Int) : Tr := match t.fnd k with
  | none => t
  | some x => if x.n.left = 0#8 then t else t.cla k x.n d
/-- The tree behind a making. -/
def Tr.Made (t : Tr) (k : Ky) (s : BitVec 8) (o : Int) (t' : Tr) : Prop := (t.mkE k ≠ 0 ∧ t' = t) ∨ (t.mkE k = 0 ∧ ∃ b, t' = t.put k b ⟨o, s, 0#8, 0#8⟩)

theorem OkT.upd {t : Tr} (h : OkT t) (k : Ky) (n : Nd) : OkT (t.upd k n) := ⟨h.ok, h.few⟩
theorem upd_can {t : Tr} (h : ∀ x ∈ t.ns, (t.at x.k).1 = 0) (k : Ky) (n : Nd) : ∀ x ∈ (t.upd k n).ns, ((t.upd k n).at x.k).1 = 0 := fun y hy => by
  obtain ⟨z, hz, rfl⟩ := List.mem_map.1 hy
  have := h z hz
  split <;> exact this
theorem OkN.mark {t : Tr} {c : Int} (h : OkN t c) (k : Ky) (s : BitVec 8) : OkN (t.mark k s) c := by
  unfold Tr.mark
  split
  · exact h
  · exact ⟨h.ok.upd _ _, upd_can h.can _ _, h.cl0, h.clc⟩
theorem OkN.hand {t : Tr} {c : Int} (h : OkN t c) (k : Ky) (o : Int) : OkN (t.hand k o) c := by
  unfold Tr.hand
  split
  · exact h
  · exact ⟨h.ok.upd _ _, upd_can h.can _ _, h.cl0, h.clc⟩
theorem OkN.clm {t : Tr} {c : Int} (h : OkN t c) (k : Ky) (d : Int) : OkN (t.clm k d) (c + 1) := by
  have h1 := h.cl0
  have h2 := h.clc
  unfold Tr.clm
  split
  · exact ⟨h.ok, h.can, h1, by omega⟩
  · split
    · exact ⟨h.ok, h.can, h1, by omega⟩
    · rename_i x hx he
      exact ⟨⟨h.ok.ok, h.ok.few⟩, upd_can h.can k (x.n.cl d), by show 0 ≤ t.cl + 1; omega, by show t.cl + 1 ≤ c + 1; omega⟩
theorem OkN.made {t t' : Tr} {c : Int} (h : OkN t c) {k : Ky} {s : BitVec 8} {o : Int} (hm : t.Made k s o t') : OkN t' c := by
  rcases hm with ⟨_, rfl⟩ | ⟨h0, b, rfl⟩
  · exact h
  · refine ⟨⟨h.ok.ok, h.ok.few⟩, fun x hx => ?_, h.cl0, h.clc⟩
    rcases List.mem_append.1 hx with hx | hx
    · exact h.can x hx
    · rw [List.mem_singleton.1 hx]; exact (mkE_ok h0).1
theorem OkN.more {t : Tr} {c c' : Int} (h : OkN t c) (hc : c ≤ c') : OkN t c' := ⟨h.ok, h.can, h.cl0, Int.le_trans h.clc hc⟩
theorem okN_new {p : Pg} {fuel : Int} (h : okN p fuel = true) (hc : ∀ c ∈ p.th, c.length ≤ 1000000) : OkN (Tr.new p fuel) 0 := ⟨⟨h, hc⟩, fun x hx => (by cases hx), Int.le_refl 0, Int.le_refl 0⟩

section
variable {H K : Heap} {l : TLo} {t : Tr} {c : Int}
theorem makeF (W : World) (h : AtF H K l t) (ho : OkN t c) (k : Ky) (hk : okS k) (s : BitVec 8) (o : Int) :
    CallA Try.prog W 13 [pT l, dS k, .v (.int .u8 (s.toNat : Int)), .v (.int .i64 o)] K fun r K' => r = .v (.int .i64 (t.mkE k)) ∧ ∃ t', t.Made k s o t' ∧ AtF H K' l t' := by
  by_cases he : t.mkE k = 0
  · refine (make_ok W K l t h.ht ho.ok k hk s o he).mono fun r K' hh => ?_
    obtain ⟨rfl, b, hb, rfl⟩ := hh
    exact ⟨by rw [he], _, .inr ⟨he, b, rfl⟩, h.put _ hk (mkE_ok he).2.1 hb⟩
  · refine (make_no W K l t h.ht ho.ok k hk s o he).mono fun r K' hh => ?_
    obtain ⟨rfl, hK⟩ := hh
    exact ⟨rfl, t, .inl ⟨he, rfl⟩, by rw [hK]; exact h⟩
theorem markF (W : World) (h : AtF H K l t) (ho : OkN t c) (k : Ky) (hk : okS k) (s : BitVec 8) :
    CallA Try.prog W 15 [pT l, dS k, .v (.int .u8 (s.toNat : Int))] K fun r K' => r = .v (.int .i64 (t.mrE k)) ∧ AtF H K' l (t.mark k s) := by
  unfold Tr.mrE Tr.mark
  cases hx : t.fnd k with
  | none =>
    refine (mark_none W K l t h.ht k hk s hx).mono fun r K' hh => ?_
    exact ⟨hh.1, by rw [hh.2]; exact h⟩
  | some x =>
    refine (mark_some W K l t h.ht ho.ok k hk s hx (ho.fnd hx)).mono fun r K' hh => ?_
    exact ⟨hh.1, by rw [hh.2]; exact h.turn hx _⟩
theorem handF (W : World) (h : AtF H K l t) (k : Ky) (hk : okS k) (o : Int) :
    CallA Try.prog W 21 [pT l, dS k, .v (.int .i64 o)] K fun r K' => r = .v (.int .i64 (t.mrE k)) ∧ AtF H K' l (t.hand k o) := by
  unfold Tr.mrE Tr.hand
  cases hx : t.fnd k with
  | none =>
    refine (hand_none W K l t h.ht k hk o hx).mono fun r K' hh => ?_
    exact ⟨hh.1, by rw [hh.2]; exact h⟩
  | some x =>
    refine (hand_some W K l t h.ht k hk o hx).mono fun r K' hh => ?_
    exact ⟨hh.1, by rw [hh.2]; exact h.turn hx _⟩
theorem claimF (W : World) (h : AtF H K l t) (ho : OkN t c) (hc : c ≤ 1000000) (k : Ky) (hk : okS k) (d : Int) :
    CallA Try.prog W 17 [pT l, dS k, .v (.int .i64 d)] K fun r K' =>
      r = .tup [.v (.int .i64 (t.clR k d).1), .v (.int .u8 ((t.clR k d).2.1.toNat : Int)), .v (.int .i64 (t.clR k d).2.2)] ∧ AtF H K' l (t.clm k d) := by
  have hlf : t.fnd k = none → t.lf k = [] := fun hx => by unfold Tr.lf; rw [hx]
  have hls : ∀ x, t.fnd k = some x → t.lf k = allB x.n.left 8 := fun x hx => by unfold Tr.lf; rw [hx]
  unfold Tr.clR Tr.clm
  cases hx : t.fnd k with
  | none =>
    refine (claim_no W K l t h.ht k hk d (hlf hx)).mono fun r K' hh => ?_
    exact ⟨hh.1, by rw [hh.2]; exact h⟩
  | some x =>
    simp only
    by_cases he : x.n.left = 0#8
    · rw [if_pos he, if_pos he]
      refine (claim_no W K l t h.ht k hk d (by rw [hls x hx, allB_nil]; exact he)).mono fun r K' hh => ?_
      exact ⟨hh.1, by rw [hh.2]; exact h⟩
    · rw [if_neg he, if_neg he]
      refine (claim_ok W K l t h.ht ho.ok k hk d hx he (ho.fnd hx) ⟨ho.cl0, Int.le_trans ho.clc hc⟩).mono fun r K' hh => ?_
      exact ⟨hh.1, by rw [hh.2]; exact h.cla hx d⟩
end
end Go.Proofs.Ytcfeklnmampndaa
