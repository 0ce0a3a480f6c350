/-
  Slices whose elements are written: copies of lists as rows of cells with room.
-/
import Derived.Test.YtakaimfpicjpaaaMaps
namespace Go.Sn
open Go Go.RowKit
set_option linter.unusedVariables false
set_option linter.unusedSimpArgs false

/-- A slice whose elements can be read: immutable ones, or the first of a row of ours. -/
inductive Src (H : Heap) (sz : Nat) (ys : List (List D)) : D → Prop
  | imm {d : D} (h : d.elems = some ys) : Src H sz ys d
  | row (b c : Nat) (rest : List D) (e : TypeId) (h : H b = some (.cells (ys.flatten ++ rest) e)) : Src H sz ys (.v (.slice (some ⟨b, 0, none⟩) ys.length c))

section
variable {P : Program} {W : World} {f : FuncId} {N : Nat} {Q : D → Heap → Prop} {ws : Nat → Bool} {ops : Array Oper} {l : List Oper} {o : Oper} {k : List Item} {env : Env} {H : Heap} {G : IG} {w : World}

theorem Src.read {sz : Nat} {ys : List (List D)} {d : D} {x : Value} (h : Src H sz ys d) (hI : Inv W G H w) (hx : Rep G x d) (hne : ys ≠ []) (hsy : ∀ ds ∈ ys, ds.length = sz) :
    ∃ b q c, ∃ news : List Value, x = .slice (some ⟨b, q, none⟩) ys.length c ∧ Reps G news ys.flatten ∧ (∀ j u, news[j]? = some u → w.cell? ⟨b, q + j, none⟩ = some u) ∧ ∀ u ∈ news, u.oneCell' = true := by
  cases h with
  | imm h =>
    rcases hx.inv_elems h with ⟨_, rfl⟩ | ⟨b, q, c, sz', hxv, hc, hsz', hcells⟩
    · exact absurd rfl hne
    · obtain ⟨news, hrep, hnews⟩ := hcells.reps
      refine ⟨b, q, c, news, hxv, hrep, fun j u hj => (hI.imm b _ u (hnews j u hj)).1, fun u hu => ?_⟩
      obtain ⟨j, hj, rfl⟩ := List.getElem_of_mem hu
      exact (hI.imm b _ _ (hnews j _ (List.getElem?_eq_getElem hj))).2
  | row b c rest e h =>
    obtain ⟨_, cs, hcs, hr, h1, hg⟩ := hI.res b _ h
    have ht : Reps G (cs.take ys.flatten.length) ys.flatten := by
      have := hr.take ys.flatten.length
      rwa [List.take_left] at this
    refine ⟨b, 0, c, cs.take ys.flatten.length, hx.inv_v, ht, fun j u hj => ?_, fun u hu => h1 u (List.mem_of_mem_take hu)⟩
    rw [List.getElem?_take] at hj
    split at hj
    · rw [cell_of_row w b _ _ e _ hcs]; simpa using hj
    · cases hj

theorem zeroCells_one {zs : Array Value} (h : ∀ v ∈ zs.toList, v.oneCell' = true) {n : Nat} : ∀ u ∈ (Builtin.zeroCells zs n).toList, u.oneCell' = true := by
  intro u hu
  unfold Builtin.zeroCells at hu
  simp only [Array.toList_map, List.mem_map, Array.mem_toList_iff, Array.mem_range] at hu
  obtain ⟨i, hi, rfl⟩ := hu
  have hpos : 0 < zs.size := by
    rcases Nat.eq_zero_or_pos zs.size with h0 | h0
    · rw [h0] at hi; omega
    · exact h0
  have hlt := Nat.mod_lt i hpos
  rw [getElem!_pos zs (i % zs.size) hlt]
  exact h _ (by simp)

/-- append to an empty slice without room: a row of ours. -/
theorem opOk_append_cells {ρ : Operand → D} {K : D → Heap → Prop} {s x : Operand} {t e sz by_ : Nat} {z : List D} {ys : List (List D)} (ho : o.op = .call ⟨.builtin .append, #[s, x], #[t, t]⟩)
    (hu : P.underlying t = some (.slice e)) (hsz : szT P e = some sz) (hby : bytesT P e = some by_) (hz : zeroT P e = some z) (hzl : z.length = sz) (hs : ρ s = .nil) (hx : Src H sz ys (ρ x))
    (hsy : ∀ ds ∈ ys, ds.length = sz) (hlen : ys.length * by_ ≤ 140737488355328) (hlen2 : ys.length ≤ maxLen) (hne : ys ≠ [])
    (hK : ∀ b cap rest, H b = none → ys.length ≤ cap → K (.v (.slice (some ⟨b, 0, none⟩) ys.length cap)) (H.set b (.cells (ys.flatten ++ rest) e))) : OpOk P W o ρ H K := by
  intro G a w next Qx hI hρ hnext
  obtain ⟨i, zv, hi, hisz, hiby, hiz, hzv⟩ := infoT hsz hby hz
  have hsv := hρ s (by simp [ho, Op.operands, Call.operands])
  rw [hs] at hsv
  obtain ⟨b, q, c, news, hxv, hrep, hcell0, hone⟩ := hx.read hI (hρ x (by simp [ho, Op.operands, Call.operands])) hne hsy
  have hnl : news.length = ys.length * i.size := by rw [hrep.1, elems_all hsy, hisz]
  have hpos : 0 < ys.length := List.length_pos_iff.2 hne
  have hcell : ∀ j u, news[j]? = some u → w.cell? ((⟨b, q, none⟩ : Addr).add j) = some u := fun j u hj => by rw [Addr.add_lit]; exact hcell0 j u hj
  have h63 : (ys.length : Int) ≤ 9223372036854775807 := by simp only [maxLen] at hlen2; omega
  let cap := grownCap w ys.length 0 e
  have hcap : ys.length ≤ cap := grownCap_ge w ys.length 0 e
  let w' := w.drew.alloc (.cells (news.toArray ++ Builtin.zeroCells zv.cells (cap - ys.length)) e)
  have hrun : (Builtin.append_ #[t, t] o.type #[a.eval s, a.eval x]).run P w = .ok (.slice (some ⟨w.heap.size, 0, none⟩) ys.length cap) w' := by
    rw [hxv]
    rcases hsv.inv_nil with hv | ⟨a', hv⟩
    · rw [hv]
      exact run_append_nil (P := P) w t o.type e i zv hu hi hiz ⟨b, q, none⟩ ys.length c news hnl hcell hpos h63 (by rw [hiby]; omega)
    · rw [hv]
      have := run_append_grow (P := P) w t o.type e i zv hu hi hiz a' 0 0 [] (by simp) (by simp) ⟨b, q, none⟩ ys.length c news hnl hcell (by omega) (by simpa using h63)
        (by rw [Nat.zero_add, nextslicecap_zero hpos, hiby]; omega)
      simp only [Nat.zero_add] at this
      simpa using this
  have hz1 : ∀ u ∈ (Builtin.zeroCells zv.cells (cap - ys.length)).toList, u.oneCell' = true := by
    intro u hu
    have hzz : ∀ v ∈ zv.cells.toList, v.oneCell' = true := by
      obtain ⟨x', hx', hr', h1'⟩ := zeroT_run (G := G) (P := P) (w := w) hz
      have : x' = zv := by
        simp [zeroValue, typeInfo, Sem.run_bind, hi, hiz] at hx'
        exact hx'.symm
      rw [← this]
      exact h1'
    exact zeroCells_one hzz u hu
  let rest := (Builtin.zeroCells zv.cells (cap - ys.length)).toList.map D.v
  have hI' := hI.drew.allocCells (news ++ (Builtin.zeroCells zv.cells (cap - ys.length)).toList) (ys.flatten ++ rest) e (hrep.append (Reps.self G _)) (fun u hu => by
    rcases List.mem_append.1 hu with h | h
    · exact hone u h
    · exact hz1 u h)
  have hw' : w' = w.drew.alloc (.cells (news ++ (Builtin.zeroCells zv.cells (cap - ys.length)).toList).toArray e) := by
    simp only [w']
    congr 2
    apply Array.ext'
    simp
  rw [← hw'] at hI'
  simp only [World.size_drew] at hI'
  exact wp_value (run_append_op ho hrun) (hnext _ _ _ _ _ (.refl G) hI' (.v _) (hK _ _ _ (hI.fresh (Nat.le_refl _)) hcap))

section lits
variable {dst : Option Tmp} {ty : TypeId} {pos : String} {aft : Array Edge}
theorem runO_append_cells {s x : Operand} {t e sz by_ : Nat} {z : List D} {ys : List (List D)}
    (hu : P.underlying t = some (.slice e)) (hsz : szT P e = some sz) (hby : bytesT P e = some by_) (hz : zeroT P e = some z) (hzl : z.length = sz) (hs : ev env s = .nil) (hx : Src H sz ys (ev env x))
    (hsy : ∀ ds ∈ ys, ds.length = sz) (hlen : ys.length * by_ ≤ 140737488355328) (hlen2 : ys.length ≤ maxLen) (hne : ys ≠ [])
    (h : ∀ b cap rest, H b = none → ys.length ≤ cap → RunO P W f N Q ops l k (put N env dst (.v (.slice (some ⟨b, 0, none⟩) ys.length cap))) (H.set b (.cells (ys.flatten ++ rest) e))) :
    RunO P W f N Q ops (⟨dst, .call ⟨.builtin .append, #[s, x], #[t, t]⟩, ty, pos, aft, none⟩ :: l) k env H :=
  runO_op rfl (opOk_append_cells rfl hu hsz hby hz hzl hs hx hsy hlen hlen2 hne h)
end lits

/-- A row with room that nobody will write again. -/
theorem run_freezeR {t : List Item} {j b n c sz : Nat} {e : TypeId} {rest : List D} {xs : List (List D)} (hj : env j = .v (.slice (some ⟨b, 0, none⟩) n c)) (hb : H b = some (.cells (xs.flatten ++ rest) e)) (hn : xs.length = n)
    (hc : n ≤ c) (hl : ∀ x ∈ xs, x.length = sz) (h : RunA P W f N Q t (upd env j (.list xs)) (H.del b)) : RunA P W f N Q t env H := by
  intro G a w fr cs hI hE hN hd hfn hk
  obtain ⟨G', hle, hI', hcells⟩ := hI.freeze hb
  have hE' : RepEnv G' a (upd env j (.list xs)) := by
    intro k
    rw [upd_at]
    split
    · rename_i hkj
      have := hE j
      rw [hj] at this
      rw [hkj, this.inv_v]
      refine Rep.mkList hn hc hl ?_
      have := hcells.take xs.flatten.length
      rwa [List.take_left] at this
    · exact (hE k).mono hle
  obtain ⟨G1, w', d, H', v, fr', hS, hG, rest⟩ := h G' a w fr cs hI' hE' hN hd hfn hk
  exact ⟨G1, w', d, H', v, fr', hS, hle.trans hG, rest⟩
end

/-- An element of a row. -/
theorem row_elem {sz : Nat} (xs : List (List D)) (rest : List D) (hl : ∀ x ∈ xs, x.length = sz) {i : Nat} (hi : i < xs.length) : ((xs.flatten ++ rest).drop (i * sz)).take sz = xs.getD i [] := by
  have h1 := flatten_drop_take xs i hl hi
  have h2 : xs.flatten.length = xs.length * sz := elems_all hl
  have h3 : i * sz + sz ≤ xs.flatten.length := by
    rw [h2]
    have : (i + 1) * sz ≤ xs.length * sz := Nat.mul_le_mul_right _ hi
    rw [Nat.add_mul] at this
    omega
  rw [List.drop_append_of_le_length (by omega), List.take_append_of_le_length (by rw [List.length_drop]; omega)]
  exact h1
/-- .. written. -/
theorem row_put {sz : Nat} (xs : List (List D)) (rest : List D) (hl : ∀ x ∈ xs, x.length = sz) {i : Nat} (hi : i < xs.length) (y : List D) :
    (xs.flatten ++ rest).take (i * sz) ++ y ++ (xs.flatten ++ rest).drop (i * sz + sz) = (xs.set i y).flatten ++ rest := by
  induction xs generalizing i with
  | nil => simp at hi
  | cons x xs ih =>
    have hx : x.length = sz := hl x (by simp)
    cases i with
    | zero =>
      simp only [Nat.zero_mul, List.take_zero, List.nil_append, Nat.zero_add, List.set_cons_zero, List.flatten_cons, List.append_assoc]
      rw [List.drop_append_of_le_length (by omega), ← hx]
      simp
    | succ i =>
      have := ih (fun x hx => hl x (by simp [hx])) (i := i) (by simpa using hi)
      simp only [List.set_cons_succ, List.flatten_cons, List.append_assoc] at this ⊢
      rw [← this]
      have e1 : (i + 1) * sz = x.length + i * sz := by rw [Nat.add_mul, hx]; omega
      rw [e1, List.take_append, Nat.add_assoc, List.drop_append, List.take_of_length_le (by omega), List.drop_of_length_le (by omega)]
      simp
end Go.Sn
