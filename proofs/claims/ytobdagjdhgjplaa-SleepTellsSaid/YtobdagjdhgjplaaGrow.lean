/-
  Rows of ours that grow: append to slices whose elements are written.
-/
import Derived.Test.YtobdagjdhgjplaaBorrow
namespace Go.Sn
open Go Go.RowKit
set_option linter.unusedVariables false
set_option linter.unusedSimpArgs false

theorem Heap.del_set_same (H : Heap) (b : Nat) (r : Res) : (H.del b).set b r = H.set b r := by
  funext k
  simp only [Heap.set, Heap.del]
  split <;> simp_all

section
variable {P : Program} {W : World} {f : FuncId} {N : Nat} {Q : D → Heap → Prop} {ws : Cl} {ops : Array Oper} {l : List Oper} {o : Oper} {k : List Item} {env : Env} {H : Heap} {G : IG} {w : World}

theorem zeroCells_len (zs : Array Value) (n : Nat) : (Builtin.zeroCells zs n).toList.length = n * zs.size := by
  rw [Array.length_toList, size_zeroCells]

/-- append to an empty slice without room: a row of ours, its room known. -/
theorem opOk_append_cellsR {ρ : Operand → D} {K : D → Heap → Prop} {s x : Operand} {t e sz by_ : Nat} {z : List D} {ys : List (List D)} (ho : o.op = .call ⟨.builtin .append, #[s, x], #[t, t]⟩)
    (hu : P.underlying t = some (.slice e)) (hsz : szT P e = some sz) (hby : bytesT P e = some by_) (hz : zeroT P e = some z) (hzl : z.length = sz) (hs : ρ s = .nil) (hx : Src H sz ys (ρ x))
    (hsy : ∀ ds ∈ ys, ds.length = sz) (hlen : ys.length * by_ ≤ 140737488355328) (hlen2 : ys.length ≤ maxLen) (hne : ys ≠ [])
    (hK : ∀ b cap rest, H b = none → ys.length ≤ cap → rest.length = (cap - ys.length) * sz → K (.v (.slice (some ⟨b, 0, none⟩) ys.length cap)) (H.set b (.cells (ys.flatten ++ rest) e))) : OpOk P W o ρ H K := by
  intro G a w next Qx hI hρ hnext
  obtain ⟨i, zv, hi, hisz, hiby, hiz, hzv⟩ := infoT hsz hby hz
  have hsv := hρ s (by simp [ho, Op.operands, Call.operands])
  rw [hs] at hsv
  obtain ⟨b, q, c, news, hxv, hrep, hcell0, hone⟩ := hx.read hI (hρ x (by simp [ho, Op.operands, Call.operands])) hne hsy
  have hnl : news.length = ys.length * i.size := by rw [hrep.1, elems_all hsy, hisz]
  have hpos : 0 < ys.length := List.length_pos_iff.2 hne
  have hcell : ∀ j u, news[j]? = some u → w.cell? ((⟨b, q, none⟩ : Addr).add j) = some u := fun j u hj => by rw [Addr.add_lit]; exact hcell0 j u hj
  have h63 : (ys.length : Int) ≤ 9223372036854775807 := by simp only [maxLen] at hlen2; omega
  let cap := grownCap w ys.length 0 e
  have hcap : ys.length ≤ cap := grownCap_ge w ys.length 0 e
  let w' := w.drew.alloc (.cells (news.toArray ++ Builtin.zeroCells zv.cells (cap - ys.length)) e)
  have hrun : (Builtin.append_ #[t, t] o.type #[a.eval s, a.eval x]).run P w = .ok (.slice (some ⟨w.heap.size, 0, none⟩) ys.length cap) w' := by
    rw [hxv]
    rcases hsv.inv_nil with hv | ⟨a', hv⟩
    · rw [hv]
      exact run_append_nil (P := P) w t o.type e i zv hu hi hiz ⟨b, q, none⟩ ys.length c news hnl hcell hpos h63 (by rw [hiby]; omega)
    · rw [hv]
      have := run_append_grow (P := P) w t o.type e i zv hu hi hiz a' 0 0 [] (by simp) (by simp) ⟨b, q, none⟩ ys.length c news hnl hcell (by omega) (by simpa using h63)
        (by rw [Nat.zero_add, nextslicecap_zero hpos, hiby]; omega)
      simp only [Nat.zero_add] at this
      simpa using this
  have hz1 : ∀ u ∈ (Builtin.zeroCells zv.cells (cap - ys.length)).toList, u.oneCell' = true := by
    intro u hu
    have hzz : ∀ v ∈ zv.cells.toList, v.oneCell' = true := by
      obtain ⟨x', hx', hr', h1'⟩ := zeroT_run (G := G) (P := P) (w := w) hz
      have : x' = zv := by
        simp [zeroValue, typeInfo, Sem.run_bind, hi, hiz] at hx'
        exact hx'.symm
      rw [← this]
      exact h1'
    exact zeroCells_one hzz u hu
  let rest := (Builtin.zeroCells zv.cells (cap - ys.length)).toList.map D.v
  have hI' := hI.drew.allocCells (news ++ (Builtin.zeroCells zv.cells (cap - ys.length)).toList) (ys.flatten ++ rest) e (hrep.append (Reps.self G _)) (fun u hu => by
    rcases List.mem_append.1 hu with h | h
    · exact hone u h
    · exact hz1 u h)
  have hw' : w' = w.drew.alloc (.cells (news ++ (Builtin.zeroCells zv.cells (cap - ys.length)).toList).toArray e) := by
    simp only [w']
    congr 2
    apply Array.ext'
    simp
  rw [← hw'] at hI'
  simp only [World.size_drew] at hI'
  refine wp_value (run_append_op ho hrun) (hnext _ _ _ _ _ (.refl G) hI' (.v _) (hK _ _ _ (hI.fresh (Nat.le_refl _)) hcap ?_))
  simp only [rest, List.length_map, zeroCells_len, hzv, hzl]

/-- append to a row of ours. -/
theorem opOk_append_row {ρ : Operand → D} {K : D → Heap → Prop} {s x : Operand} {t e sz by_ b n cap : Nat} {z rest : List D} {xs ys : List (List D)} (ho : o.op = .call ⟨.builtin .append, #[s, x], #[t, t]⟩)
    (hu : P.underlying t = some (.slice e)) (hsz : szT P e = some sz) (hby : bytesT P e = some by_) (hz : zeroT P e = some z) (hzl : z.length = sz) (hs : ρ s = .v (.slice (some ⟨b, 0, none⟩) n cap))
    (hb : H b = some (.cells (xs.flatten ++ rest) e)) (hn : xs.length = n) (hc : n ≤ cap) (hr : rest.length = (cap - n) * sz) (hx : Src H sz ys (ρ x)) (hsx : ∀ ds ∈ xs, ds.length = sz)
    (hsy : ∀ ds ∈ ys, ds.length = sz) (hlen : (xs.length + ys.length) * by_ ≤ 140737488355328) (hlen2 : xs.length + ys.length ≤ maxLen) (hne : ys ≠ [])
    (hK : ∀ b' cap' rest', (H.del b) b' = none → xs.length + ys.length ≤ cap' → rest'.length = (cap' - (xs.length + ys.length)) * sz →
      K (.v (.slice (some ⟨b', 0, none⟩) (xs.length + ys.length) cap')) ((H.del b).set b' (.cells ((xs ++ ys).flatten ++ rest') e))) : OpOk P W o ρ H K := by
  intro G a w next Qx hI hρ hnext
  subst hn
  obtain ⟨i, zv, hi, hisz, hiby, hiz, hzv⟩ := infoT hsz hby hz
  have hsv := hρ s (by simp [ho, Op.operands, Call.operands])
  rw [hs] at hsv
  have hv := hsv.inv_v
  obtain ⟨hWb, cs, hcur, hreps, hone0, hfree⟩ := hI.res b _ hb
  have hIdel : Inv W G (H.del b) w := hI.weaken fun c r hc => by rw [Heap.del_at] at hc; split at hc; cases hc; exact hc
  obtain ⟨bx, q, c, news, hxv, hrep, hcell0, hone⟩ := hx.read hI (hρ x (by simp [ho, Op.operands, Call.operands])) hne hsy
  have hnl : news.length = ys.length * i.size := by rw [hrep.1, elems_all hsy, hisz]
  have hpos : 0 < ys.length := List.length_pos_iff.2 hne
  have hcell : ∀ j u, news[j]? = some u → w.cell? ((⟨bx, q, none⟩ : Addr).add j) = some u := fun j u hj => by rw [Addr.add_lit]; exact hcell0 j u hj
  have hxl : xs.flatten.length = xs.length * sz := elems_all hsx
  have hcl : cs.length = xs.length * sz + rest.length := by rw [hreps.1, List.length_append, hxl]
  by_cases hroom : xs.length + ys.length ≤ cap
  · have hle : ys.length * sz ≤ rest.length := by rw [hr]; exact Nat.mul_le_mul_right _ (by omega)
    have hfit : xs.length * i.size + news.length ≤ cs.toArray.size := by rw [hnl, hisz, List.size_toArray, hcl]; omega
    have hrun := run_append_room (P := P) w t o.type e i hu hi b xs.length cap cs.toArray hcur ⟨bx, q, none⟩ ys.length c news hnl hcell hone hroom hfit
    rw [hisz] at hrun hnl
    have hreps' : Reps G (cs.take (xs.length * sz) ++ news ++ cs.drop (xs.length * sz + news.length)) ((xs ++ ys).flatten ++ rest.drop (ys.length * sz)) := by
      have h1 := hreps.take (xs.length * sz)
      rw [← hxl, List.take_left] at h1
      have h2 := hreps.drop (xs.length * sz + news.length)
      rw [hnl, ← hxl, List.drop_append, List.drop_of_length_le (l := xs.flatten) (by omega), Nat.add_sub_cancel_left, List.nil_append] at h2
      rw [List.flatten_append, hnl, ← hxl]
      exact (h1.append hrep).append h2
    have hI' := hI.setRow hb (cs.take (xs.length * sz) ++ news ++ cs.drop (xs.length * sz + news.length)) hreps' (fun u hu => by
      rcases List.mem_append.1 hu with h | h
      · rcases List.mem_append.1 h with h | h
        · exact hone0 u (List.mem_of_mem_take h)
        · exact hone u h
      · exact hone0 u (List.mem_of_mem_drop h))
    rw [← Heap.del_set_same] at hI'
    exact wp_value (run_append_op ho (by rw [hv, hxv]; exact hrun)) (hnext _ _ _ _ _ (.refl G) hI' (.v _) (hK b cap _ (by simp [Heap.del]) hroom (by
      rw [List.length_drop, hr, ← Nat.sub_mul]
      congr 1
      omega)))
  · have hgt : cap < xs.length + ys.length := by omega
    have hol : (cs.take (xs.length * sz)).length = xs.length * i.size := by rw [List.length_take, hisz, hcl]; omega
    have holdc : ∀ j u, (cs.take (xs.length * sz))[j]? = some u → w.cell? ((⟨b, 0, none⟩ : Addr).add j) = some u := fun j u hj => by
      rw [List.getElem?_take] at hj
      split at hj
      · rw [Addr.add_lit, cell_of_row w b _ _ e _ hcur]; simpa using hj
      · cases hj
    have hrun := run_append_grow (P := P) w t o.type e i zv hu hi hiz ⟨b, 0, none⟩ xs.length cap _ hol holdc ⟨bx, q, none⟩ ys.length c news hnl hcell hgt
      (by simp only [maxLen] at hlen2; omega) (by rw [hiby]; exact growslice_fits hgt hlen)
    have hcap := grownCap_ge w (xs.length + ys.length) cap e
    have hz1 : ∀ u ∈ (Builtin.zeroCells zv.cells (grownCap w (xs.length + ys.length) cap e - (xs.length + ys.length))).toList, u.oneCell' = true := by
      intro u hu
      have hzz : ∀ v ∈ zv.cells.toList, v.oneCell' = true := by
        obtain ⟨x', hx', hr', h1'⟩ := zeroT_run (G := G) (P := P) (w := w) hz
        have : x' = zv := by
          simp [zeroValue, typeInfo, Sem.run_bind, hi, hiz] at hx'
          exact hx'.symm
        rw [← this]
        exact h1'
      exact zeroCells_one hzz u hu
    have htk : Reps G (cs.take (xs.length * sz)) xs.flatten := by
      have h1 := hreps.take (xs.length * sz)
      rwa [← hxl, List.take_left, hxl] at h1
    have hI' := hIdel.drew.allocCells (cs.take (xs.length * sz) ++ news ++ (Builtin.zeroCells zv.cells (grownCap w (xs.length + ys.length) cap e - (xs.length + ys.length))).toList)
      ((xs ++ ys).flatten ++ (Builtin.zeroCells zv.cells (grownCap w (xs.length + ys.length) cap e - (xs.length + ys.length))).toList.map D.v) e
      (by rw [List.flatten_append]; exact (htk.append hrep).append (Reps.self G _)) (fun u hu => by
        rcases List.mem_append.1 hu with h | h
        · rcases List.mem_append.1 h with h | h
          · exact hone0 u (List.mem_of_mem_take h)
          · exact hone u h
        · exact hz1 u h)
    have harr : (cs.take (xs.length * sz)).toArray ++ news.toArray ++ Builtin.zeroCells zv.cells (grownCap w (xs.length + ys.length) cap e - (xs.length + ys.length)) =
        (cs.take (xs.length * sz) ++ news ++ (Builtin.zeroCells zv.cells (grownCap w (xs.length + ys.length) cap e - (xs.length + ys.length))).toList).toArray := by
      apply Array.ext'
      simp
    rw [harr] at hrun
    simp only [World.size_drew] at hI'
    refine wp_value (run_append_op ho (by rw [hv, hxv]; exact hrun)) (hnext _ _ _ _ _ (.refl G) hI' (.v _) (hK _ _ _ (hIdel.fresh (Nat.le_refl _)) hcap ?_))
    simp only [List.length_map, zeroCells_len, hzv, hzl]

/-- A list that is gathered, and whose elements will be written. -/
inductive CollR (H0 : Heap) (e sz : Nat) (xs : List (List D)) : D → Heap → Prop
  | none (h : xs = []) : CollR H0 e sz xs .nil H0
  | some (b cap : Nat) (rest : List D) (hb : H0 b = none) (hc : xs.length ≤ cap) (hr : rest.length = (cap - xs.length) * sz) : CollR H0 e sz xs (.v (.slice (some ⟨b, 0, none⟩) xs.length cap)) (H0.set b (.cells (xs.flatten ++ rest) e))

section lits
variable {dst : Option Tmp} {ty : TypeId} {pos : String} {aft : Array Edge}
theorem runO_append_cellsR {s x : Operand} {t e sz by_ : Nat} {z : List D} {ys : List (List D)}
    (hu : P.underlying t = some (.slice e)) (hsz : szT P e = some sz) (hby : bytesT P e = some by_) (hz : zeroT P e = some z) (hzl : z.length = sz) (hs : ev env s = .nil) (hx : Src H sz ys (ev env x))
    (hsy : ∀ ds ∈ ys, ds.length = sz) (hlen : ys.length * by_ ≤ 140737488355328) (hlen2 : ys.length ≤ maxLen) (hne : ys ≠ [])
    (h : ∀ b cap rest, H b = none → ys.length ≤ cap → rest.length = (cap - ys.length) * sz → RunO P W f N Q ops l k (put N env dst (.v (.slice (some ⟨b, 0, none⟩) ys.length cap))) (H.set b (.cells (ys.flatten ++ rest) e))) :
    RunO P W f N Q ops (⟨dst, .call ⟨.builtin .append, #[s, x], #[t, t]⟩, ty, pos, aft, none⟩ :: l) k env H :=
  runO_op rfl (opOk_append_cellsR rfl hu hsz hby hz hzl hs hx hsy hlen hlen2 hne h)
theorem runO_append_row {s x : Operand} {t e sz by_ b n cap : Nat} {z rest : List D} {xs ys : List (List D)}
    (hu : P.underlying t = some (.slice e)) (hsz : szT P e = some sz) (hby : bytesT P e = some by_) (hz : zeroT P e = some z) (hzl : z.length = sz) (hs : ev env s = .v (.slice (some ⟨b, 0, none⟩) n cap))
    (hb : H b = some (.cells (xs.flatten ++ rest) e)) (hn : xs.length = n) (hc : n ≤ cap) (hr : rest.length = (cap - n) * sz) (hx : Src H sz ys (ev env x)) (hsx : ∀ ds ∈ xs, ds.length = sz)
    (hsy : ∀ ds ∈ ys, ds.length = sz) (hlen : (xs.length + ys.length) * by_ ≤ 140737488355328) (hlen2 : xs.length + ys.length ≤ maxLen) (hne : ys ≠ [])
    (h : ∀ b' cap' rest', (H.del b) b' = none → xs.length + ys.length ≤ cap' → rest'.length = (cap' - (xs.length + ys.length)) * sz →
      RunO P W f N Q ops l k (put N env dst (.v (.slice (some ⟨b', 0, none⟩) (xs.length + ys.length) cap'))) ((H.del b).set b' (.cells ((xs ++ ys).flatten ++ rest') e))) :
    RunO P W f N Q ops (⟨dst, .call ⟨.builtin .append, #[s, x], #[t, t]⟩, ty, pos, aft, none⟩ :: l) k env H :=
  runO_op rfl (opOk_append_row rfl hu hsz hby hz hzl hs hb hn hc hr hx hsx hsy hlen hlen2 hne h)
/-- append to such a list: it collects more. -/
theorem runO_collR {s x : Operand} {t e sz by_ : Nat} {z : List D} {H0 : Heap} {xs ys : List (List D)}
    (hu : P.underlying t = some (.slice e)) (hsz : szT P e = some sz) (hby : bytesT P e = some by_) (hz : zeroT P e = some z) (hzl : z.length = sz) (hs : CollR H0 e sz xs (ev env s) H) (hx : Src H sz ys (ev env x))
    (hsx : ∀ ds ∈ xs, ds.length = sz) (hsy : ∀ ds ∈ ys, ds.length = sz) (hlen : (xs.length + ys.length) * by_ ≤ 140737488355328) (hlen2 : xs.length + ys.length ≤ maxLen) (hne : ys ≠ [])
    (h : ∀ d H', CollR H0 e sz (xs ++ ys) d H' → RunO P W f N Q ops l k (put N env dst d) H') :
    RunO P W f N Q ops (⟨dst, .call ⟨.builtin .append, #[s, x], #[t, t]⟩, ty, pos, aft, none⟩ :: l) k env H := by
  generalize hd : ev env s = d at hs
  cases hs with
  | none hn =>
    subst hn
    simp only [List.length_nil, Nat.zero_add] at hlen hlen2
    refine runO_append_cellsR hu hsz hby hz hzl hd hx hsy hlen hlen2 hne fun b cap rest hb hc hr => h _ _ ?_
    exact CollR.some (xs := [] ++ ys) b cap rest hb hc hr
  | some b cap rest hb hc hr =>
    refine runO_append_row hu hsz hby hz hzl hd (Heap.set_same _ _ _) rfl hc hr hx hsx hsy hlen hlen2 hne fun b' cap' rest' hb' hc' hr' => ?_
    rw [Heap.del_set hb] at hb' ⊢
    have := CollR.some (H0 := H0) (e := e) (sz := sz) (xs := xs ++ ys) b' cap' rest' hb' (by rw [List.length_append]; exact hc') (by rw [List.length_append]; exact hr')
    rw [List.length_append] at this
    exact h _ _ this
end lits
end
end Go.Sn
