/-
  Both trees in one heap.
-/
import Derived.Test.YtcfeklnmampndaaTsI
import Derived.Test.YtcfeklnmampndaaTrL
set_option linter.unusedSimpArgs false
set_option linter.unusedVariables false
namespace Go.Proofs.Ytcfeklnmampndaa
open Go Go.Sn Go.RowKit
-- NONE stH_none

/-- The document's tree lies in all else of the program's. -/
def Both (H Ha : Heap) (l : TLo) (t : Tr) (b : Nat) (d : DT) : Prop := ∃ Hp, AtF Hp Ha l t ∧ AtDF H Hp b d
/-- The other way round. -/
def Both2 (H Ha : Heap) (l : TLo) (t : Tr) (b : Nat) (d : DT) : Prop := ∃ Hq, AtDF Hq Ha b d ∧ AtF H Hq l t
def tbs (l : TLo) (t : Tr) : List Nat := l.b :: l.m :: t.ns.map (·.b)
open Classical in
noncomputable def minus (H : Heap) (S : List Nat) : Heap := fun q => if q ∈ S then none else H q
theorem minus_in {H : Heap} {S : List Nat} {q : Nat} (h : q ∈ S) : minus H S q = none := by unfold minus; rw [if_pos h]
theorem minus_out {H : Heap} {S : List Nat} {q : Nat} (h : q ∉ S) : minus H S q = H q := by unfold minus; rw [if_neg h]
theorem minus_sub (H : Heap) (S : List Nat) : (minus H S).sub H := fun q r hq => by
  by_cases e : q ∈ S
  · rw [minus_in e] at hq; cases hq
  · rwa [minus_out e] at hq
theorem AtF.tb {H K : Heap} {l : TLo} {t : Tr} (h : AtF H K l t) : ∀ q ∈ tbs l t, H q = Option.none ∧ (K q).isSome = true := fun q hq => by
  rcases List.mem_cons.1 hq with rfl | hq
  · exact ⟨h.fb, by rw [h.ht.hb]; rfl⟩
  · rcases List.mem_cons.1 hq with rfl | hq
    · exact ⟨h.fm, by rw [h.ht.hm]; rfl⟩
    · obtain ⟨x, hx, rfl⟩ := List.mem_map.1 hq
      exact ⟨h.fn x hx, by rw [h.ht.hn x hx]; rfl⟩
theorem AtD.keep {H H' : Heap} {b : Nat} {t : DT} (h : AtD H b t) (hk : ∀ q ∈ dbs b t, ∀ r, H q = some r → H' q = some r) : AtD H' b t := by
  have hN : ∀ x ∈ t.N, ∀ q ∈ fp x, q ∈ dbs b t := fun x hx q hq => List.mem_append.2 (.inr (List.mem_flatMap.2 ⟨x, hx, hq⟩))
  have row : ∀ {e : Nat} {xs : List (List D)} {d : D}, RowD H e xs d → (∀ q ∈ rb d, q ∈ dbs b t) → RowD H' e xs d := fun hr hq => by
    rcases hr with ⟨rfl, rfl⟩ | ⟨b, cap, rfl, hg⟩
    · exact .inl ⟨rfl, rfl⟩
    · exact .inr ⟨b, cap, rfl, hk _ (hq b (by simp [rb])) _ hg⟩
  exact ⟨hk _ (by simp [dbs]) _ h.hb, ⟨hk _ (by simp [dbs]) _ h.hr.hb, hk _ (by simp [dbs]) _ h.hr.hc, h.hr.ne, h.hr.cap⟩, h.hs, row h.hN fun q hq => by simp [dbs, hq],
    fun x hx => hk _ (hN x hx _ (by simp [fp])) _ (h.hn x hx), fun x hx => row (h.ht x hx) fun q hq => hN x hx q (by simp [fp, hq]), fun x hx => row (h.hd x hx) fun q hq => hN x hx q (by simp [fp, hq])⟩
theorem AtT.keep {H H' : Heap} {l : TLo} {t : Tr} (h : AtT H l t) (hk : ∀ q ∈ tbs l t, ∀ r, H q = some r → H' q = some r) : AtT H' l t :=
  ⟨hk _ (by simp [tbs]) _ h.hb, hk _ (by simp [tbs]) _ h.hm, fun x hx => hk _ (by simp only [tbs, List.mem_cons]; exact .inr (.inr (List.mem_map.2 ⟨x, hx, rfl⟩))) _ (h.hn x hx), h.nd, h.kd, h.ok⟩
theorem Both.swap {H Ha : Heap} {l : TLo} {t : Tr} {b : Nat} {d : DT} (h : Both H Ha l t b d) : Both2 H Ha l t b d := by
  obtain ⟨Hp, hA, hD⟩ := h
  have hdis : ∀ q ∈ tbs l t, q ∉ dbs b d := fun q hq hd => by
    have h1 := (hA.tb q hq).1
    have h2 := hD.ht.blk q hd
    rw [h1] at h2; cases h2
  have hno : ∀ q, Hp q = none → H q = none := fun q hq => hD.none' hq
  refine ⟨minus Ha (dbs b d), ⟨hD.ht.mono hA.sub, minus_sub _ _, fun q hq => minus_in hq, hD.nd, hD.kd⟩, ⟨hA.ht.keep fun q hq r hr => by rw [minus_out (hdis q hq)]; exact hr, fun q r hq => ?_, hno _ hA.fb, hno _ hA.fm, fun x hx => hno _ (hA.fn x hx)⟩⟩
  have hqd : q ∉ dbs b d := fun e => by rw [hD.no q e] at hq; cases hq
  rw [minus_out hqd]
  exact hA.sub _ _ (hD.sub _ _ hq)
theorem Both2.swap {H Ha : Heap} {l : TLo} {t : Tr} {b : Nat} {d : DT} (h : Both2 H Ha l t b d) : Both H Ha l t b d := by
  obtain ⟨Hq, hD, hA⟩ := h
  have hdis : ∀ q ∈ dbs b d, q ∉ tbs l t := fun q hq ht => by
    have h1 := hD.no q hq
    have h2 := (hA.tb q ht).2
    rw [h1] at h2; cases h2
  have hno : ∀ q, Hq q = none → H q = none := fun q hq => hA.none' hq
  refine ⟨minus Ha (tbs l t), ⟨hA.ht.mono hD.sub, minus_sub _ _, minus_in (by simp [tbs]), minus_in (by simp [tbs]), fun x hx => minus_in (by simp only [tbs, List.mem_cons]; exact .inr (.inr (List.mem_map.2 ⟨x, hx, rfl⟩)))⟩,
    ⟨hD.ht.keep fun q hq r hr => by rw [minus_out (hdis q hq)]; exact hr, fun q r hq => ?_, fun q hq => hno _ (hD.no q hq), hD.nd, hD.kd⟩⟩
  have hqt : q ∉ tbs l t := fun e => by rw [(hA.tb q e).1] at hq; cases hq
  rw [minus_out hqt]
  exact hD.sub _ _ (hA.sub _ _ hq)
theorem Both.fresh {H Ha : Heap} {l : TLo} {t : Tr} {b : Nat} {d : DT} (h : Both H Ha l t b d) {p : Nat} (r : Res) (hp : Ha p = none) : Both (H.set p r) (Ha.set p r) l t b d := by
  obtain ⟨Hp, hA, hD⟩ := h
  exact ⟨Hp.set p r, hA.fresh r hp, hD.fresh r (hA.none' hp)⟩
theorem Both.less {H H0 Ha : Heap} {l : TLo} {t : Tr} {b : Nat} {d : DT} (h : Both H Ha l t b d) (hs : H0.sub H) : Both H0 Ha l t b d := by
  obtain ⟨Hp, hA, hD⟩ := h
  exact ⟨Hp, hA, hD.less hs⟩
theorem Both.sub {H Ha : Heap} {l : TLo} {t : Tr} {b : Nat} {d : DT} (h : Both H Ha l t b d) : H.sub Ha := by
  obtain ⟨Hp, hA, hD⟩ := h
  exact hD.sub.trans hA.sub
theorem Both.none' {H Ha : Heap} {l : TLo} {t : Tr} {b : Nat} {d : DT} (h : Both H Ha l t b d) {q : Nat} (hq : Ha q = none) : H q = none := by
  cases hx : H q with
  | none => rfl
  | some r => rw [h.sub _ _ hx] at hq; cases hq
theorem Both.atT {H Ha : Heap} {l : TLo} {t : Tr} {b : Nat} {d : DT} (h : Both H Ha l t b d) : AtT Ha l t := by
  obtain ⟨Hp, hA, hD⟩ := h
  exact hA.ht
theorem Both.atD {H Ha : Heap} {l : TLo} {t : Tr} {b : Nat} {d : DT} (h : Both H Ha l t b d) : AtD Ha b d := by
  obtain ⟨Hp, hA, hD⟩ := h
  exact hD.ht.mono hA.sub

section
variable {H Ha : Heap} {l : TLo} {t : Tr} {b : Nat} {d : DT} {c : Nat}
theorem makeB (W : World) (h : Both H Ha l t b d) (ho : OkN t c) (k : Ky) (hk : okS k) (s : BitVec 8) (o : Int) :
    CallA Try.prog W 13 [pT l, dS k, .v (.int .u8 (s.toNat : Int)), .v (.int .i64 o)] Ha fun r K' => r = .v (.int .i64 (t.mkE k)) ∧ ∃ t', t.Made k s o t' ∧ Both H K' l t' b d := by
  obtain ⟨Hp, hA, hD⟩ := h
  refine (makeF W hA ho k hk s o).mono fun r K' hh => ?_
  obtain ⟨hr, t', hm, h'⟩ := hh
  exact ⟨hr, t', hm, Hp, h', hD⟩
theorem markB (W : World) (h : Both H Ha l t b d) (ho : OkN t c) (k : Ky) (hk : okS k) (s : BitVec 8) :
    CallA Try.prog W 15 [pT l, dS k, .v (.int .u8 (s.toNat : Int))] Ha fun r K' => r = .v (.int .i64 (t.mrE k)) ∧ Both H K' l (t.mark k s) b d := by
  obtain ⟨Hp, hA, hD⟩ := h
  exact (markF W hA ho k hk s).mono fun r K' hh => ⟨hh.1, Hp, hh.2, hD⟩
theorem handB (W : World) (h : Both H Ha l t b d) (k : Ky) (hk : okS k) (o : Int) :
    CallA Try.prog W 21 [pT l, dS k, .v (.int .i64 o)] Ha fun r K' => r = .v (.int .i64 (t.mrE k)) ∧ Both H K' l (t.hand k o) b d := by
  obtain ⟨Hp, hA, hD⟩ := h
  exact (handF W hA k hk o).mono fun r K' hh => ⟨hh.1, Hp, hh.2, hD⟩
theorem claimB (W : World) (h : Both H Ha l t b d) (ho : OkN t c) (hc : (c : Int) ≤ 1000000) (k : Ky) (hk : okS k) (n : Int) :
    CallA Try.prog W 17 [pT l, dS k, .v (.int .i64 n)] Ha fun r K' =>
      r = .tup [.v (.int .i64 (t.clR k n).1), .v (.int .u8 ((t.clR k n).2.1.toNat : Int)), .v (.int .i64 (t.clR k n).2.2)] ∧ Both H K' l (t.clm k n) b d := by
  obtain ⟨Hp, hA, hD⟩ := h
  exact (claimF W hA ho hc k hk n).mono fun r K' hh => ⟨hh.1, Hp, hh.2, hD⟩
end
end Go.Proofs.Ytcfeklnmampndaa
