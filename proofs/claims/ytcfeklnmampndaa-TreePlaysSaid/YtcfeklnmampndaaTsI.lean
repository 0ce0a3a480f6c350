/-
  Plain: a tree and the document's tell the same.
-/
import Derived.Test.YtcfeklnmampndaaTsFH
import Derived.Test.YtcfeklnmampndaaTrM
import Derived.Test.YtcfeklnmampndaaSlEc
set_option linter.unusedSimpArgs false
set_option linter.unusedVariables false
namespace Go.Proofs.Ytcfeklnmampndaa
open Go Go.Sn Go.RowKit

structure NSim (n : Nd) (y : DN) : Prop where
  ow : n.ow = y.ow
  sl : y.sl = allB n.sl 8
  td : ∀ z : Int, hasE n.td z = decide (z ∈ y.td)
  dn : ∀ z : Int, hasE n.dn z = decide (z ∈ y.dn)
structure Sim (t : Tr) (d : DT) (c : Nat) : Prop where
  s0 : d.s0 = newS t.p t.fu
  cl : d.cl = t.cl
  ks : d.N.map (·.k) = t.keys
  nn : d.N.length ≤ c
  nd : ∀ k, (t.fnd k = none ∧ d.fnd k = none) ∨ ∃ x y, t.fnd k = some x ∧ d.fnd k = some y ∧ NSim x.n y
  len : ∀ y ∈ d.N, y.sl.length ≤ 8 ∧ y.td.length ≤ 8 * c ∧ y.dn.length ≤ c
theorem Sim.okD {t : Tr} {d : DT} {c : Nat} (h : Sim t d c) (hc : c ≤ 1000) : OkD d :=
  ⟨fun y hy => (by obtain ⟨h1, h2, h3⟩ := h.len y hy; exact ⟨by omega, by omega, by omega⟩), by have := h.nn; omega⟩
theorem Sim.at {t : Tr} {d : DT} {c : Nat} (h : Sim t d c) (k : Ky) : rpl d.s0 (rowK k) = t.at k := by rw [h.s0]; rfl
theorem Sim.more {t : Tr} {d : DT} {c c' : Nat} (h : Sim t d c) (hc : c ≤ c') : Sim t d c' :=
  ⟨h.s0, h.cl, h.ks, by have := h.nn; omega, h.nd, fun y hy => by obtain ⟨h1, h2, h3⟩ := h.len y hy; exact ⟨h1, by omega, by omega⟩⟩
theorem nsim_left {n : Nd} {y : DN} (h : NSim n y) : allB n.left 8 = leftD y 8 := by
  unfold leftD
  refine allB_of fun k hk => ?_
  unfold Nd.left
  rw [has_not, has_not, h.td, h.dn, h.sl, in_allB]
theorem nsim_clT {n : Nd} {y : DN} (h : NSim n y) (d : Int) : clT n d = dclT y d := by
  unfold clT dclT
  rw [nsim_left h]
theorem nsim_child {n : Nd} {y : DN} (h : NSim n y) (s : St) (th : Int) : allB (chE s n.sl n.dn th) 8 = chD s y.sl y.dn th := by
  rw [child_law, h.sl]
  unfold chD chR
  have : ∀ j : Nat, chC s (allB n.sl 8) (allB n.dn 8) th j = chC s (allB n.sl 8) y.dn th j := fun j => by
    unfold chC
    rw [in_allB n.dn, h.dn]
  simp only [this]
theorem sim_up {t : Tr} {d : DT} {c : Nat} (h : Sim t d c) (k : Ky) : t.up k = d.up k := by
  unfold Tr.up DT.up
  rcases h.nd (k.take (k.length - 1)) with ⟨h1, h2⟩ | ⟨x, y, h1, h2, h3⟩
  · rw [h1, h2]
  · rw [h1, h2]
    simp only
    rw [h3.dn]
theorem sim_isSome {t : Tr} {d : DT} {c : Nat} (h : Sim t d c) (k : Ky) : (t.fnd k).isSome = (d.fnd k).isSome := by
  rcases h.nd k with ⟨h1, h2⟩ | ⟨x, y, h1, h2, _⟩ <;> rw [h1, h2] <;> rfl
theorem sim_mkE {t : Tr} {d : DT} {c : Nat} (h : Sim t d c) (k : Ky) : t.mkE k = d.mkE k := by
  unfold Tr.mkE DT.mkE
  rw [h.at, sim_up h, sim_isSome h]

theorem dfnd_turn {d : DT} {A B : List DN} {y y' : DN} {k : Ky} (hN : d.N = A ++ y :: B) (hkd : (d.N.map (·.k)).Nodup) (hy : y.k = k) (hy' : y'.k = k) (d' : DT) (hN' : d'.N = A ++ y' :: B) (k' : Ky) :
    d'.fnd k' = if k' = k then some y' else d.fnd k' := by
  unfold DT.fnd
  rw [hN, hN', List.find?_append, List.find?_append]
  have hA : ∀ z ∈ A, z.k ≠ k := fun z hz e => by
    rw [hN, List.map_append, List.nodup_append] at hkd
    exact hkd.2.2 z.k (List.mem_map.2 ⟨z, hz, rfl⟩) y.k (by simp) (by rw [e, hy])
  by_cases e : k' = k
  · subst e
    rw [if_pos rfl]
    have h0 : A.find? (fun x => decide (x.k = k')) = none := by
      rw [List.find?_eq_none]
      intro z hz
      simpa using hA z hz
    rw [h0]
    simp [hy']
  · rw [if_neg e]
    have e1 : ¬ y.k = k' := fun e2 => e (by rw [← e2, hy])
    have e2 : ¬ y'.k = k' := fun e2 => e (by rw [← e2, hy'])
    simp [List.find?_cons, e1, e2]
/-- A node turned in both. -/
theorem sim_turn {t : Tr} {d d' : DT} {c c' : Nat} {A B : List DN} {x : Nt} {y y' : DN} {k : Ky} {n : Nd} {t' : Tr} (h : Sim t d c) (hx : t.fnd k = some x) (hy : d.fnd k = some y) (hN : d.N = A ++ y :: B) (hkd : (d.N.map (·.k)).Nodup)
    (hN' : d'.N = A ++ y' :: B) (hyk : y'.k = y.k) (hs : NSim n y') (hs0 : d'.s0 = d.s0) (hcl : d'.cl = t'.cl) (hns : t'.ns = (t.upd k n).ns) (hp : t'.p = t.p ∧ t'.fu = t.fu) (hc : c ≤ c')
    (hl : y'.sl.length ≤ 8 ∧ y'.td.length ≤ 8 * c' ∧ y'.dn.length ≤ c') : Sim t' d' c' := by
  have hk := (dfnd_mem hy).2
  have hd := dfnd_turn hN hkd hk (hyk.trans hk) d' hN'
  have ht : ∀ k', t'.fnd k' = if k' = k then some { x with n := n } else t.fnd k' := fun k' => by
    unfold Tr.fnd
    rw [hns]
    exact fnd_upd' hx n k'
  refine ⟨by rw [hs0, h.s0, hp.1, hp.2], hcl, ?_, ?_, fun k' => ?_, fun z hz => ?_⟩
  · have : t'.keys = t.keys := by unfold Tr.keys; rw [hns]; exact keys_upd t k n
    rw [this, ← h.ks, hN, hN']
    simp [hyk]
  · have := h.nn
    rw [hN] at this
    rw [hN']
    simp at this ⊢
    omega
  · rw [hd, ht]
    by_cases e : k' = k
    · rw [if_pos e, if_pos e]
      exact .inr ⟨_, _, rfl, rfl, hs⟩
    · rw [if_neg e, if_neg e]
      exact h.nd k'
  · rw [hN'] at hz
    have old : z ∈ d.N → z.sl.length ≤ 8 ∧ z.td.length ≤ 8 * c' ∧ z.dn.length ≤ c' := fun hz => by
      obtain ⟨h1, h2, h3⟩ := h.len z hz
      exact ⟨h1, by omega, by omega⟩
    rcases List.mem_append.1 hz with hz | hz
    · exact old (by rw [hN]; exact List.mem_append.2 (.inl hz))
    · rcases List.mem_cons.1 hz with rfl | hz
      · exact hl
      · exact old (by rw [hN]; exact List.mem_append.2 (.inr (List.mem_cons_of_mem _ hz)))
/-- A node more in both. -/
theorem sim_put {t : Tr} {d d' : DT} {c : Nat} {k : Ky} {b nb : Nat} {o : Int} {s : BitVec 8} (h : Sim t d c) (hx : t.fnd k = none) (hN' : d'.N = d.N ++ [⟨k, nb, o, allB s 8, [], [], .nil, .nil⟩]) (hs0 : d'.s0 = d.s0) (hcl : d'.cl = d.cl) :
    Sim (t.put k b ⟨o, s, 0#8, 0#8⟩) d' (c + 1) := by
  have hd0 : d.fnd k = none := by
    rcases h.nd k with ⟨_, h2⟩ | ⟨x, y, h1, _⟩
    · exact h2
    · rw [hx] at h1; cases h1
  have hd : ∀ k', d'.fnd k' = if k' = k then some ⟨k, nb, o, allB s 8, [], [], .nil, .nil⟩ else d.fnd k' := fun k' => by
    unfold DT.fnd at *
    rw [hN', List.find?_append]
    by_cases e : k' = k
    · subst e
      rw [hd0, if_pos rfl]
      simp
    · rw [if_neg e]
      have e2 : ¬ k = k' := fun e2 => e e2.symm
      cases d.N.find? (fun x => decide (x.k = k')) <;> simp [e2]
  have ht : ∀ k', (t.put k b ⟨o, s, 0#8, 0#8⟩).fnd k' = if k' = k then some ⟨k, b, ⟨o, s, 0#8, 0#8⟩⟩ else t.fnd k' := fun k' => fnd_put hx b _ k'
  refine ⟨by rw [hs0, h.s0]; rfl, by rw [hcl, h.cl]; rfl, ?_, ?_, fun k' => ?_, fun z hz => ?_⟩
  · rw [hN']
    simp [Tr.keys, Tr.put, ← h.ks, List.map_append]
    exact h.ks
  · rw [hN']; simp; exact h.nn
  · rw [hd, ht]
    by_cases e : k' = k
    · rw [if_pos e, if_pos e]
      exact .inr ⟨_, _, rfl, rfl, ⟨rfl, rfl, fun z => by rw [has_0]; simp, fun z => by rw [has_0]; simp⟩⟩
    · rw [if_neg e, if_neg e]
      exact h.nd k'
  · rw [hN'] at hz
    rcases List.mem_append.1 hz with hz | hz
    · obtain ⟨h1, h2, h3⟩ := h.len z hz
      exact ⟨h1, by omega, by omega⟩
    · rw [List.mem_singleton.1 hz]
      exact ⟨allB_len s 8, by simp, by simp⟩
end Go.Proofs.Ytcfeklnmampndaa
