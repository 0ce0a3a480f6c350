/-
  Small things that many contracts use.
-/
import Derived.Test.YtkoechchjiddhaaFacts
set_option linter.unusedSimpArgs false
set_option linter.unusedVariables false
namespace Go.Proofs.Ytkoechchjiddhaa
open Go Go.Sn Go.RowKit

def intsC (l : List Int) : List (List D) := l.map fun n => [.v (.int .i64 n)]
@[go_sem] theorem intsC_length (l : List Int) : (intsC l).length = l.length := by simp [intsC]
@[go_sem] theorem intsC_get (l : List Int) (n : Nat) (h : n < l.length) : (intsC l).getD n [] = [.v (.int .i64 (l.getD n default))] := by simp [intsC, List.getD, h]
theorem wrap_nat {x : Int} (h0 : 0 ≤ x) (h1 : x < 9223372036854775808) : IntKind.i64.wrap x = x := by rw [IntKind.wrap_i64]; omega
theorem take_succ_getD {α : Type} [Inhabited α] (l : List α) (k : Nat) (h : k < l.length) : l.take (k + 1) = l.take k ++ [l.getD k default] := by
  rw [List.take_add_one]
  simp [List.getD, h]
theorem intsC_all (l : List Int) : ∀ ds ∈ intsC l, ds.length = 1 := by intro ds h; simp only [intsC, List.mem_map] at h; obtain ⟨n, _, rfl⟩ := h; rfl
theorem intsC_snoc (l : List Int) (n : Int) : intsC (l ++ [n]) = intsC l ++ [[.v (.int .i64 n)]] := by simp [intsC]
theorem numsC_all (l : List Int) : ∀ ds ∈ numsC l, ds.length = 1 := by intro ds h; simp only [numsC, List.mem_map] at h; obtain ⟨n, _, rfl⟩ := h; rfl
theorem numsC_snoc (l : List Int) (n : Int) : numsC (l ++ [n]) = numsC l ++ [[.v (.int .u8 n)]] := by simp [numsC]
@[go_sem] theorem numsC_length (l : List Int) : (numsC l).length = l.length := by simp [numsC]
/-- A string of given bytes. -/
def strL (l : List UInt8) : ByteArray := ⟨l.toArray⟩
@[go_sem] theorem strL_size (l : List UInt8) : (strL l).size = l.length := by simp [strL, ByteArray.size]
@[go_sem] theorem strL_list (l : List UInt8) : (strL l).data.toList = l := rfl
theorem strL_eq (s : ByteArray) : s = strL s.data.toList := rfl
@[go_sem] theorem bytesC_length (l : List UInt8) : (bytesC l).length = l.length := by simp [bytesC]
@[go_sem] theorem bytesC_get (l : List UInt8) (n : Nat) (h : n < l.length) : (bytesC l).getD n [] = [.v (.int .u8 ((l.getD n 0).toNat : Int))] := by simp [bytesC, List.getD, h]
theorem all_take_succ' {α : Type} [Inhabited α] {l : List α} {k : Nat} {p : α → Bool} (h : k < l.length) (ht : (l.take k).all p = true) (hk : p (l.getD k default) = true) : (l.take (k + 1)).all p = true := by
  rw [take_succ_getD l k h, List.all_append, ht, List.all_cons, hk]; rfl
theorem all_not' {α : Type} [Inhabited α] {l : List α} {k : Nat} {p : α → Bool} (h : k < l.length) (hk : p (l.getD k default) = false) : l.all p = false := by
  rw [List.all_eq_false]
  refine ⟨l.getD k default, ?_, by simpa using hk⟩
  simp [List.getD, h]
theorem tmodN (a n : Nat) : (a : Int).tmod (n : Int) = ((a % n : Nat) : Int) := (Int.ofNat_tmod a n).symm
theorem tdivN (a n : Nat) : (a : Int).tdiv (n : Int) = ((a / n : Nat) : Int) := (Int.ofNat_tdiv a n).symm
theorem wrap_small {x : Int} (h0 : 0 ≤ x) (h1 : x < 256) : IntKind.i64.wrap x = x := by rw [IntKind.wrap_i64]; omega
theorem wrapP {x : Int} (h0 : -9223372036854775808 ≤ x) (h1 : x < 9223372036854775808) : IntKind.i64.wrap x = x := by rw [IntKind.wrap_i64]; omega
theorem vb {a b : Bool} (h : a = b) : tupA [.v (.bool a)] = .v (.bool b) := by rw [h]; rfl
theorem all_take_succG {α : Type} [Inhabited α] {l : List α} {k : Nat} {p : α → Bool} (h : k < l.length) (ht : (l.take k).all p = true) (hk : p (l.getD k default) = true) : (l.take (k + 1)).all p = true := by
  rw [List.take_succ_eq_append_getElem h, List.all_append, ht]
  simpa [List.getD_eq_getElem?_getD, List.getElem?_eq_getElem h] using hk
theorem all_notG {α : Type} [Inhabited α] {l : List α} {k : Nat} {p : α → Bool} (h : k < l.length) (hk : p (l.getD k default) = false) : l.all p = false := by
  rw [Bool.eq_false_iff]
  intro e
  rw [List.all_eq_true] at e
  rw [e (l.getD k default) (by simp [List.getD_eq_getElem?_getD, List.getElem?_eq_getElem h])] at hk
  cases hk
theorem wrap_succ {k : Nat} (h : k < 9223372036854775807) : IntKind.i64.wrap ((k : Int) + 1) = ((k + 1 : Nat) : Int) := by rw [wrapP (by omega) (by omega)]; rfl
theorem take_step {α : Type} [Inhabited α] {a b : List α} {k : Nat} (ha : k < a.length) (hb : k < b.length) (h : a.take k = b.take k) (e : a.getD k default = b.getD k default) : a.take (k + 1) = b.take (k + 1) := by
  have e1 : a[k] = b[k] := by simpa [List.getD_eq_getElem?_getD, List.getElem?_eq_getElem ha, List.getElem?_eq_getElem hb] using e
  rw [List.take_succ_eq_append_getElem ha, List.take_succ_eq_append_getElem hb, h, e1]
theorem take_all {α : Type} {a b : List α} {k : Nat} (ha : a.length ≤ k) (hb : b.length ≤ k) (h : a.take k = b.take k) : a = b := by
  rwa [List.take_of_length_le ha, List.take_of_length_le hb] at h
theorem ne_getD {α : Type} [Inhabited α] {a b : List α} {k : Nat} (e : a.getD k default ≠ b.getD k default) : a ≠ b := fun h => e (by rw [h])
theorem take_flatMap {α β : Type} [Inhabited α] (l : List α) (f : α → List β) {k : Nat} (h : k < l.length) : (l.take (k + 1)).flatMap f = (l.take k).flatMap f ++ f (l.getD k default) := by
  rw [List.take_succ_eq_append_getElem h, List.flatMap_append]
  simp [List.getD_eq_getElem?_getD, List.getElem?_eq_getElem h]
theorem strL_tail (l : List UInt8) (a : Nat) : (strL l).extract a l.length = strL (l.drop a) := by
  apply ByteArray.ext
  simp only [strL, ByteArray.data_extract]
  apply Array.ext'
  simp only [Array.toList_extract, List.extract_eq_take_drop]
  rw [List.take_of_length_le (by rw [List.length_drop]; exact Nat.le_refl _)]
end Go.Proofs.Ytkoechchjiddhaa
