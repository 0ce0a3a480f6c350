/-
  More rules: what is forgotten within a region; lists that are gathered and then only read.
-/
import Derived.Test.YtobdagjdhgjplaaDraw
namespace Go.Sn
open Go Go.RowKit
set_option linter.unusedVariables false
set_option linter.unusedSimpArgs false

theorem Heap.set_self {H : Heap} {b : Nat} {r : Res} (h : H b = some r) : H.set b r = H := by
  funext k
  rw [Heap.set_at]
  split
  · rename_i e; subst e; exact h.symm
  · rfl
theorem Heap.sub_congr {H K : Heap} {b : Nat} {r : Res} (h : H.sub K) : (H.set b r).sub (K.set b r) := by
  intro k s hk
  rw [Heap.set_at] at hk ⊢
  split
  · rename_i e; rw [if_pos e] at hk; exact hk
  · rename_i e; rw [if_neg e] at hk; exact h k s hk

section
variable {P : Program} {W : World} {f : FuncId} {N : Nat} {Q : D → Heap → Prop} {ws : Cl} {ops : Array Oper} {l : List Oper} {k : List Item} {env : Env} {H : Heap} {dst : Option Tmp} {ty : TypeId} {pos : String} {aft : Array Edge}

theorem runO_env {env' : Env} (hs : ∀ G x k, Rep G x (env k) → Rep G x (env' k)) (h : RunO P W f N Q ops l k env' H) : RunO P W f N Q ops l k env H :=
  fun is his G a w hI hE hN hd => h is his G a w hI (fun k => hs G _ k (hE k)) hN hd

theorem put_flat_rep {G : IG} {d : D} {x : Value} {k : Nat} (h : Rep G x ((put N env dst d) k)) : Rep G x ((put N env dst d.flat) k) := by
  cases dst with
  | none => exact h
  | some t =>
    simp only [put] at h ⊢
    split
    · rename_i hN
      rw [if_pos hN] at h
      simp only [upd] at h ⊢
      split
      · rename_i e; rw [if_pos e] at h; exact h.flat
      · rename_i e; rw [if_neg e] at h; exact h
    · rename_i hN; rw [if_neg hN] at h; exact h

theorem runO_collL {s x : Operand} {t e sz by_ : Nat} {z : List D} {H0 : Heap} {xs ys : List (List D)}
    (hu : P.underlying t = some (.slice e)) (hsz : szT P e = some sz) (hby : bytesT P e = some by_) (hz : zeroT P e = some z) (hzl : z.length = sz) (hc : Coll H0 e sz xs (ev env s) H) (hx : (ev env x).elems = some ys)
    (hsx : ∀ ds ∈ xs, ds.length = sz) (hsy : ∀ ds ∈ ys, ds.length = sz) (hlen : (xs.length + ys.length) * by_ ≤ 140737488355328) (hlen2 : xs.length + ys.length ≤ maxLen)
    (h : RunO P W f N Q ops l k (put N env dst (.list (xs ++ ys))) H0) :
    RunO P W f N Q ops (⟨dst, .call ⟨.builtin .append, #[s, x], #[t, t]⟩, ty, pos, aft, none⟩ :: l) k env H :=
  runO_coll hu hsz hby hz hzl hc hx hsx hsy hlen hlen2 fun d H' hc' => runO_drop hc'.sub (runO_env (env' := put N env dst d.flat) (fun G x k hr => put_flat_rep hr) (by rw [hc'.flat]; exact h))

/-- Cells that nobody will write again. -/
theorem Inv.freeze {W : World} {G : IG} {H : Heap} {w : World} (hI : Inv W G H w) {b : Nat} {ds : List D} {e : TypeId} (hb : H b = some (.cells ds e)) :
    ∃ G', G.le G' ∧ Inv W G' (H.del b) w ∧ CellsAt G' b 0 ds := by
  obtain ⟨hWb, cs, hcs, hr, h1, hg⟩ := hI.res b _ hb
  have hle : G.le (G.add b 0 cs) := IG.le_add G b 0 cs fun p _ => hg p
  have hdel : Inv W G (H.del b) w := hI.weaken fun c r hc => by rw [Heap.del_at] at hc; split at hc; cases hc; exact hc
  refine ⟨G.add b 0 cs, hle, hdel.grow (fun k c hc => ?_) h1 (fun p _ => hg p) (fun r hr => ?_), fun k d hd => ?_⟩
  · rw [cell_of_row _ _ _ _ e (0, 0) hcs]
    simpa using hc
  · rw [Heap.del_at, if_pos rfl] at hr; cases hr
  · obtain ⟨c, hc, hrc⟩ := hr.get hd
    exact ⟨c, IG.add_at G _ 0 cs hc, hrc.mono hle⟩

theorem run_freeze {t : List Item} {j b n c sz : Nat} {e : TypeId} {ds : List D} {xs : List (List D)} (hj : env j = .v (.slice (some ⟨b, 0, none⟩) n c)) (hb : H b = some (.cells ds e)) (hx : xs.flatten = ds) (hn : xs.length = n)
    (hc : n ≤ c) (hl : ∀ x ∈ xs, x.length = sz) (h : RunA P W f N Q t (upd env j (.list xs)) (H.del b)) : RunA P W f N Q t env H := by
  subst hx
  intro G a w fr cs hI hE hN hd hfn hk
  obtain ⟨G', hle, hI', hcells⟩ := hI.freeze hb
  have hE' : RepEnv G' a (upd env j (.list xs)) := by
    intro k
    rw [upd_at]
    split
    · rename_i hkj
      have := hE j
      rw [hj] at this
      rw [hkj, this.inv_v]
      exact Rep.mkList hn hc hl hcells
    · exact (hE k).mono hle
  obtain ⟨G1, w', d, H', v, fr', hS, hG, rest⟩ := h G' a w fr cs hI' hE' hN hd hfn hk
  exact ⟨G1, w', d, H', v, fr', hS, hle.trans hG, rest⟩

theorem run_freezeP {t : List Item} {j b : Nat} {e : TypeId} {ds : List D} (hj : env j = .v (.pointer (some ⟨b, 0, none⟩))) (hb : H b = some (.cells ds e))
    (h : RunA P W f N Q t (upd env j (.ip ds)) (H.del b)) : RunA P W f N Q t env H := by
  intro G a w fr cs hI hE hN hd hfn hk
  obtain ⟨G', hle, hI', hcells⟩ := hI.freeze hb
  have hE' : RepEnv G' a (upd env j (.ip ds)) := by
    intro k
    rw [upd_at]
    split
    · rename_i hkj
      have := hE j
      rw [hj] at this
      rw [hkj, this.inv_v]
      exact Rep.mkIp hcells
    · exact (hE k).mono hle
  obtain ⟨G1, w', d, H', v, fr', hS, hG, rest⟩ := h G' a w fr cs hI' hE' hN hd hfn hk
  exact ⟨G1, w', d, H', v, fr', hS, hle.trans hG, rest⟩

/-- A slot's slice, only read from here on. -/
theorem run_flat {t : List Item} (j : Nat) (h : RunA P W f N Q t (upd env j (env j).flat) H) : RunA P W f N Q t env H :=
  run_env (env' := upd env j (env j).flat) (fun G x i hr => by
    rw [upd_at]
    split
    · rename_i e; subst e; exact hr.flat
    · exact hr) h
/-- A gathered list, only read from here on. -/
theorem run_coll {t : List Item} {j e sz : Nat} {H0 : Heap} {xs : List (List D)} (hc : Coll H0 e sz xs (env j) H) (h : RunA P W f N Q t (upd env j (.list xs)) H0) : RunA P W f N Q t env H :=
  run_drop hc.sub (run_flat j (by rw [hc.flat]; exact h))

theorem Heap.del_set {H : Heap} {b : Nat} {r : Res} (h : H b = none) : (H.set b r).del b = H := by
  funext c
  simp only [Heap.del, Heap.set]
  split
  · rename_i e; subst e; exact h.symm
  · rfl

theorem runA_and {p : Prop} (hp : p) (h : RunA P W f N Q k env H) : p ∧ RunA P W f N Q k env H := ⟨hp, h⟩
theorem runO_and {p : Prop} (hp : p) (h : RunO P W f N Q ops l k env H) : p ∧ RunO P W f N Q ops l k env H := ⟨hp, h⟩
theorem runD_and {p : Prop} (hp : p) (h : RunD P W f N Q ws ops k H l env) : p ∧ RunD P W f N Q ws ops k H l env := ⟨hp, h⟩
end
end Go.Sn
