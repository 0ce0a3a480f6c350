/-
  The words of the walks' simp set.
-/
import Derived.Test.YtobdagjdhgjplaaCells
namespace Go.Sn
attribute [go_sem] Nat.mul_one List.length_replicate Int.cast_ofNat_Int List.getElem?_toArray List.getElem?_cons_zero List.getElem?_cons_succ List.getD_cons_zero List.getD_cons_succ List.getD_nil List.length_cons List.length_nil List.map_cons
  List.map_nil List.take_succ_cons List.take_zero List.take_nil List.drop_succ_cons List.drop_zero List.drop_nil List.cons_append List.nil_append List.append_nil List.all_cons
  List.all_nil Option.map_some Option.map_none Nat.reduceAdd Nat.reduceLT Nat.reduceEqDiff Nat.reduceLeDiff Nat.reduceMul Nat.zero_add Nat.add_zero reduceIte ite_true ite_false
  and_true true_and and_self Bool.and_self Bool.and_true Bool.true_and Bool.true_or Bool.false_or Bool.or_false Bool.or_true Bool.false_and Bool.and_false Bool.not_true
  Bool.not_false beq_self_eq_true eq_self reduceCtorEq implies_true false_implies forall_const Nat.lt_irrefl Nat.reduceSub Int.toNat_natCast Int.natCast_nonneg Int.ofNat_lt
  Int.ofNat_le Int.natCast_inj decide_true decide_false not_true_eq_false not_false_eq_true ne_eq Int.reduceEq Int.reduceNe Int.reduceLT Int.reduceLE Int.reduceToNat Int.reduceAdd
  Int.reduceMul Int.reduceSub Option.isSome_some Option.isSome_none
@[go_sem] theorem wrap_l0 : Go.IntKind.i64.wrap 0 = 0 := rfl
@[go_sem] theorem wrap_l1 : Go.IntKind.i64.wrap 1 = 1 := rfl
@[go_sem] theorem wrap_l2 : Go.IntKind.i64.wrap 2 = 2 := rfl
@[go_sem] theorem wrap_l3 : Go.IntKind.i64.wrap 3 = 3 := rfl
@[go_sem] theorem wrap_l4 : Go.IntKind.i64.wrap 4 = 4 := rfl
@[go_sem] theorem wrap_l5 : Go.IntKind.i64.wrap 5 = 5 := rfl
@[go_sem] theorem wrap_l6 : Go.IntKind.i64.wrap 6 = 6 := rfl
@[go_sem] theorem wrap_l7 : Go.IntKind.i64.wrap 7 = 7 := rfl
@[go_sem] theorem wrap_l8 : Go.IntKind.i64.wrap 8 = 8 := rfl
@[go_sem] theorem wrap_l9 : Go.IntKind.i64.wrap 9 = 9 := rfl
@[go_sem] theorem wrap_l10 : Go.IntKind.i64.wrap 10 = 10 := rfl
@[go_sem] theorem wrap_l11 : Go.IntKind.i64.wrap 11 = 11 := rfl
@[go_sem] theorem wrap_l12 : Go.IntKind.i64.wrap 12 = 12 := rfl
@[go_sem] theorem wrap_lm : Go.IntKind.i64.wrap (-1) = -1 := rfl
end Go.Sn
