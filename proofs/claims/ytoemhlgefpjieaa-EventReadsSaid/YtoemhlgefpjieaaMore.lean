/-
  More rules: what is forgotten within a region; lists that are gathered and then only read.
-/
import Derived.Test.YtoemhlgefpjieaaDraw
namespace Go.Sn
open Go Go.RowKit
set_option linter.unusedVariables false
set_option linter.unusedSimpArgs false

section
variable {P : Program} {W : World} {f : FuncId} {N : Nat} {Q : D → Heap → Prop} {ops : Array Oper} {l : List Oper} {k : List Item} {env : Env} {H : Heap} {dst : Option Tmp} {ty : TypeId} {pos : String} {aft : Array Edge}

theorem runO_env {env' : Env} (hs : ∀ G x k, Rep G x (env k) → Rep G x (env' k)) (h : RunO P W f N Q ops l k env' H) : RunO P W f N Q ops l k env H :=
  fun is his G a w hI hE hN hd => h is his G a w hI (fun k => hs G _ k (hE k)) hN hd

theorem put_flat_rep {G : IG} {d : D} {x : Value} {k : Nat} (h : Rep G x ((put N env dst d) k)) : Rep G x ((put N env dst d.flat) k) := by
  cases dst with
  | none => exact h
  | some t =>
    simp only [put] at h ⊢
    split
    · rename_i hN
      rw [if_pos hN] at h
      simp only [upd] at h ⊢
      split
      · rename_i e; rw [if_pos e] at h; exact h.flat
      · rename_i e; rw [if_neg e] at h; exact h
    · rename_i hN; rw [if_neg hN] at h; exact h

theorem runO_collL {s x : Operand} {t e sz by_ : Nat} {z : List D} {H0 : Heap} {xs ys : List (List D)}
    (hu : P.underlying t = some (.slice e)) (hsz : szT P e = some sz) (hby : bytesT P e = some by_) (hz : zeroT P e = some z) (hzl : z.length = sz) (hc : Coll H0 e sz xs (ev env s) H) (hx : (ev env x).elems = some ys)
    (hsx : ∀ ds ∈ xs, ds.length = sz) (hsy : ∀ ds ∈ ys, ds.length = sz) (hlen : (xs.length + ys.length) * by_ ≤ 140737488355328) (hlen2 : xs.length + ys.length ≤ maxLen)
    (h : RunO P W f N Q ops l k (put N env dst (.list (xs ++ ys))) H0) :
    RunO P W f N Q ops (⟨dst, .call ⟨.builtin .append, #[s, x], #[t, t]⟩, ty, pos, aft, none⟩ :: l) k env H :=
  runO_coll hu hsz hby hz hzl hc hx hsx hsy hlen hlen2 fun d H' hc' => runO_drop hc'.sub (runO_env (env' := put N env dst d.flat) (fun G x k hr => put_flat_rep hr) (by rw [hc'.flat]; exact h))
end
end Go.Sn
