/-
  Slices whose elements are written: copies of lists as rows of cells with room.
-/
import Derived.Test.YtobdagjdhgjplaaMaps
namespace Go.Sn
open Go Go.RowKit
set_option linter.unusedVariables false
set_option linter.unusedSimpArgs false

/-- A slice whose elements can be read: immutable ones, or the first of a row of ours. -/
inductive Src (H : Heap) (sz : Nat) (ys : List (List D)) : D → Prop
  | imm {d : D} (h : d.elems = some ys) : Src H sz ys d
  | row (b c : Nat) (rest : List D) (e : TypeId) (h : H b = some (.cells (ys.flatten ++ rest) e)) : Src H sz ys (.v (.slice (some ⟨b, 0, none⟩) ys.length c))

section
variable {P : Program} {W : World} {f : FuncId} {N : Nat} {Q : D → Heap → Prop} {ws : Cl} {ops : Array Oper} {l : List Oper} {o : Oper} {k : List Item} {env : Env} {H : Heap} {G : IG} {w : World}

theorem Src.read {sz : Nat} {ys : List (List D)} {d : D} {x : Value} (h : Src H sz ys d) (hI : Inv W G H w) (hx : Rep G x d) (hne : ys ≠ []) (hsy : ∀ ds ∈ ys, ds.length = sz) :
    ∃ b q c, ∃ news : List Value, x = .slice (some ⟨b, q, none⟩) ys.length c ∧ Reps G news ys.flatten ∧ (∀ j u, news[j]? = some u → w.cell? ⟨b, q + j, none⟩ = some u) ∧ ∀ u ∈ news, u.oneCell' = true := by
  cases h with
  | imm h =>
    rcases hx.inv_elems h with ⟨_, rfl⟩ | ⟨b, q, c, sz', hxv, hc, hsz', hcells⟩
    · exact absurd rfl hne
    · obtain ⟨news, hrep, hnews⟩ := hcells.reps
      refine ⟨b, q, c, news, hxv, hrep, fun j u hj => (hI.imm b _ u (hnews j u hj)).1, fun u hu => ?_⟩
      obtain ⟨j, hj, rfl⟩ := List.getElem_of_mem hu
      exact (hI.imm b _ _ (hnews j _ (List.getElem?_eq_getElem hj))).2
  | row b c rest e h =>
    obtain ⟨_, cs, hcs, hr, h1, hg⟩ := hI.res b _ h
    have ht : Reps G (cs.take ys.flatten.length) ys.flatten := by
      have := hr.take ys.flatten.length
      rwa [List.take_left] at this
    refine ⟨b, 0, c, cs.take ys.flatten.length, hx.inv_v, ht, fun j u hj => ?_, fun u hu => h1 u (List.mem_of_mem_take hu)⟩
    rw [List.getElem?_take] at hj
    split at hj
    · rw [cell_of_row w b _ _ e _ hcs]; simpa using hj
    · cases hj

theorem zeroCells_one {zs : Array Value} (h : ∀ v ∈ zs.toList, v.oneCell' = true) {n : Nat} : ∀ u ∈ (Builtin.zeroCells zs n).toList, u.oneCell' = true := by
  intro u hu
  unfold Builtin.zeroCells at hu
  simp only [Array.toList_map, List.mem_map, Array.mem_toList_iff, Array.mem_range] at hu
  obtain ⟨i, hi, rfl⟩ := hu
  have hpos : 0 < zs.size := by
    rcases Nat.eq_zero_or_pos zs.size with h0 | h0
    · rw [h0] at hi; omega
    · exact h0
  have hlt := Nat.mod_lt i hpos
  rw [getElem!_pos zs (i % zs.size) hlt]
  exact h _ (by simp)

/-- append to an empty slice without room: a row of ours. -/
theorem opOk_append_cells {ρ : Operand → D} {K : D → Heap → Prop} {s x : Operand} {t e sz by_ : Nat} {z : List D} {ys : List (List D)} (ho : o.op = .call ⟨.builtin .append, #[s, x], #[t, t]⟩)
    (hu : P.underlying t = some (.slice e)) (hsz : szT P e = some sz) (hby : bytesT P e = some by_) (hz : zeroT P e = some z) (hzl : z.length = sz) (hs : ρ s = .nil) (hx : Src H sz ys (ρ x))
    (hsy : ∀ ds ∈ ys, ds.length = sz) (hlen : ys.length * by_ ≤ 140737488355328) (hlen2 : ys.length ≤ maxLen) (hne : ys ≠ [])
    (hK : ∀ b cap rest, H b = none → ys.length ≤ cap → K (.v (.slice (some ⟨b, 0, none⟩) ys.length cap)) (H.set b (.cells (ys.flatten ++ rest) e))) : OpOk P W o ρ H K := by
  intro G a w next Qx hI hρ hnext
  obtain ⟨i, zv, hi, hisz, hiby, hiz, hzv⟩ := infoT hsz hby hz
  have hsv := hρ s (by simp [ho, Op.operands, Call.operands])
  rw [hs] at hsv
  obtain ⟨b, q, c, news, hxv, hrep, hcell0, hone⟩ := hx.read hI (hρ x (by simp [ho, Op.operands, Call.operands])) hne hsy
  have hnl : news.length = ys.length * i.size := by rw [hrep.1, elems_all hsy, hisz]
  have hpos : 0 < ys.length := List.length_pos_iff.2 hne
  have hcell : ∀ j u, news[j]? = some u → w.cell? ((⟨b, q, none⟩ : Addr).add j) = some u := fun j u hj => by rw [Addr.add_lit]; exact hcell0 j u hj
  have h63 : (ys.length : Int) ≤ 9223372036854775807 := by simp only [maxLen] at hlen2; omega
  let cap := grownCap w ys.length 0 e
  have hcap : ys.length ≤ cap := grownCap_ge w ys.length 0 e
  let w' := w.drew.alloc (.cells (news.toArray ++ Builtin.zeroCells zv.cells (cap - ys.length)) e)
  have hrun : (Builtin.append_ #[t, t] o.type #[a.eval s, a.eval x]).run P w = .ok (.slice (some ⟨w.heap.size, 0, none⟩) ys.length cap) w' := by
    rw [hxv]
    rcases hsv.inv_nil with hv | ⟨a', hv⟩
    · rw [hv]
      exact run_append_nil (P := P) w t o.type e i zv hu hi hiz ⟨b, q, none⟩ ys.length c news hnl hcell hpos h63 (by rw [hiby]; omega)
    · rw [hv]
      have := run_append_grow (P := P) w t o.type e i zv hu hi hiz a' 0 0 [] (by simp) (by simp) ⟨b, q, none⟩ ys.length c news hnl hcell (by omega) (by simpa using h63)
        (by rw [Nat.zero_add, nextslicecap_zero hpos, hiby]; omega)
      simp only [Nat.zero_add] at this
      simpa using this
  have hz1 : ∀ u ∈ (Builtin.zeroCells zv.cells (cap - ys.length)).toList, u.oneCell' = true := by
    intro u hu
    have hzz : ∀ v ∈ zv.cells.toList, v.oneCell' = true := by
      obtain ⟨x', hx', hr', h1'⟩ := zeroT_run (G := G) (P := P) (w := w) hz
      have : x' = zv := by
        simp [zeroValue, typeInfo, Sem.run_bind, hi, hiz] at hx'
        exact hx'.symm
      rw [← this]
      exact h1'
    exact zeroCells_one hzz u hu
  let rest := (Builtin.zeroCells zv.cells (cap - ys.length)).toList.map D.v
  have hI' := hI.drew.allocCells (news ++ (Builtin.zeroCells zv.cells (cap - ys.length)).toList) (ys.flatten ++ rest) e (hrep.append (Reps.self G _)) (fun u hu => by
    rcases List.mem_append.1 hu with h | h
    · exact hone u h
    · exact hz1 u h)
  have hw' : w' = w.drew.alloc (.cells (news ++ (Builtin.zeroCells zv.cells (cap - ys.length)).toList).toArray e) := by
    simp only [w']
    congr 2
    apply Array.ext'
    simp
  rw [← hw'] at hI'
  simp only [World.size_drew] at hI'
  exact wp_value (run_append_op ho hrun) (hnext _ _ _ _ _ (.refl G) hI' (.v _) (hK _ _ _ (hI.fresh (Nat.le_refl _)) hcap))

theorem run_equalIn_sl (n : Nat) {t e : Nat} (hu : P.underlying t = some (.slice e)) (a : Option Addr) (m c : Nat) : (Op.equalIn (n + 1) t (.slice a m c) (.slice none 0 0)).run P w = .ok a.isNone w := by
  cases a <;> simp [Op.equalIn, run_underlying hu]

/-- A slice against nil: an empty one may be either. -/
theorem opOk_sliceNil {ρ : Operand → D} {K : D → Heap → Prop} {t e yt : TypeId} {x : Operand} {xs : List (List D)} (ho : o.op = .binOp .eql t x (.const (.slice none 0 0)) yt) (hu : P.underlying t = some (.slice e)) (hx : (ρ x).elems = some xs)
    (hK : ∀ b : Bool, (b = true → xs = []) → K (.v (.bool b)) H) : OpOk P W o ρ H K := by
  intro G a w next Qx hI hρ hnext
  have hxr := hρ x (by simp [ho, Op.operands])
  have key : ∀ (v : Value) (b : Bool), a.eval x = v → (∀ cs, v ≠ .agg cs) → v ≠ .nilIface → (Op.equalIn 10000 t v (.slice none 0 0)).run P w = .ok b w → binOp .eql t v (.slice none 0 0) = (do pure (.bool (← Op.equal t v (.slice none 0 0)))) → (b = true → xs = []) → o.wp P a w next Qx := by
    intro v b hv h1 h2 h3 h4 h5
    refine wp_value (w' := w) (v := .bool b) ?_ (hnext _ _ _ _ _ (.refl G) hI (.v _) (hK b h5))
    simp only [execOp, ho, hv]
    refine execOp_v' ?_
    show (Sem.bind (eqGuard .eql t x (.const (.slice none 0 0)) v (.slice none 0 0)) fun _ => binOp .eql t v (.slice none 0 0)).run P w = _
    rw [Sem.run_bind', run_eqGuard_v .eql t x _ h1 h2]
    exact run_eql_of h3 h4
  rcases hxr.inv_elems hx with ⟨⟨ax, hv⟩, rfl⟩ | ⟨b, q, c, sz, hv, _, _, _⟩
  · cases ax with
    | none => exact key _ true hv (by simp) (by simp) (run_equalIn_sl 9999 hu none 0 0) rfl (fun _ => rfl)
    | some ad => exact key _ false hv (by simp) (by simp) (run_equalIn_sl 9999 hu (some ad) 0 0) rfl (fun _ => rfl)
  · exact key _ false hv (by simp) (by simp) (run_equalIn_sl 9999 hu _ _ _) rfl (fun e => by cases e)

/-- A literal whose room is ours. -/
theorem opOk_buildSliceOwn {ρ : Operand → D} {K : D → Heap → Prop} {t e n sz : Nat} {parts : Array (Nat × Operand)} {z : List D} (ho : o.op = .buildSlice t n parts) (hu : P.underlying t = some (.slice e))
    (hsz : szT P e = some sz) (hz : zeroT P e = some z) (hzl : z.length = sz) (hn : parts.toList.length = n) (hfull : fullParts (partsA ρ parts.toList) 0 = true)
    (hs : ∀ x ∈ partsA ρ parts.toList, x.2.cells.length = sz ∧ x.2.stor = true) (hle : n * sz ≤ 16777216)
    (hn0 : n ≤ maxLen) (hK : ∀ b, H b = none → K (.own b n ((partsA ρ parts.toList).map fun x => x.2.cells.map D.flat)) (H.set b (.grow e n n sz))) : OpOk P W o ρ H K := by
  intro G a w next Qx hI hρ hnext
  obtain ⟨x, hx, hrx, h1x⟩ := zeroT_run (w := w) (G := G) hz
  have hxs : x.cells.size = sz := by have := hrx.1; simp at this; omega
  let zero : Array Value := if n * sz = 0 then #[] else x.cells
  let init : Array Value := (Array.range (n * sz)).map (zero[· % zero.size]!)
  have hinit : init.size = n * sz := by simp [init]
  have hpl : (partsA ρ parts.toList).length = n := by simp [partsA, hn]
  have hfill := fillA_full (sz := sz) (partsA ρ parts.toList) 0 [] (init.toList.map .v) hfull hs (by simp) (by simp [hpl, hinit])
  simp only [List.nil_append] at hfill
  obtain ⟨cs', hcs', hr'⟩ := fillA_ok (G := G) (fun i => some (i * sz, sz)) _ (fun i x h => h) (partsA ρ parts.toList) (parts.toList.map fun x => (x.1, a.eval x.2)) _ _ init hfill (Reps.self G init.toList) (by simp [partsA]) (fun k p q hp hq => by
      simp only [partsA, List.getElem?_map] at hp hq
      cases hk : parts.toList[k]? with
      | none => rw [hk] at hp; simp at hp
      | some x => rw [hk] at hp hq; simp at hp hq; subst hp; subst hq; exact ⟨rfl, hρ _ (by simp only [ho, Op.operands, List.mem_toArray, List.mem_map]; exact ⟨_, List.mem_of_getElem? hk, rfl⟩)⟩)
  have hmap : (parts.map fun x => (x.1, a.eval x.2)).toList = parts.toList.map fun x => (x.1, a.eval x.2) := by simp
  have hrun : (execOp a.eval o).run P w = .ok (.value (.slice (some ⟨w.heap.size, 0, none⟩) n n)) (w.alloc (.cells cs' e)) := by
    have hle' : ¬ (2 ^ 24 < n * sz) := by omega
    simp only [execOp, ho]
    refine execOp_v' ?_
    simp only [Instr.buildSlice, Sem.run_bind, run_underlying hu, Result.andThen_ok, run_szT hsz, gt_iff_lt, if_neg hle', Sem.run_pure]
    by_cases h0 : n * sz = 0
    · have hz0 : zero = #[] := if_pos h0
      have hi0 : init = (Array.range (n * sz)).map ((#[] : Array Value)[· % (#[] : Array Value).size]!) := by simp only [init, hz0]
      rw [hi0] at hcs'
      simp only [if_pos h0, Sem.run_bind, Sem.run_pure, Result.andThen_ok]
      rw [hmap, hcs']
      simp [newRow]
    · have hz0 : zero = x.cells := if_neg h0
      have hi0 : init = (Array.range (n * sz)).map (x.cells[· % x.cells.size]!) := by simp only [init, hz0]
      rw [hi0] at hcs'
      simp only [if_neg h0, Sem.run_bind, Sem.run_pure, Result.andThen_ok, hx]
      rw [hmap, hcs']
      simp [newRow]
  unfold Oper.wp
  rw [hrun]
  have hone : ∀ c ∈ cs'.toList, c.oneCell' = true := by
    intro c hc
    obtain ⟨i, hi, rfl⟩ := List.getElem_of_mem hc
    have hi' : i < ((partsA ρ parts.toList).map fun x => x.2.cells).flatten.length := by rw [← hr'.1]; exact hi
    have hrep := hr'.2 i _ _ (List.getElem?_eq_getElem hi') (List.getElem?_eq_getElem hi)
    have hmem := List.getElem_mem hi'
    refine hrep.one ?_
    simp only [List.mem_flatten, List.mem_map] at hmem
    obtain ⟨cl, ⟨x, hx, rfl⟩, hin⟩ := hmem
    have := (hs x hx).2
    generalize ((partsA ρ parts.toList).map fun x => x.2.cells).flatten[i] = d at hin
    cases hxd : x.2 <;> simp [hxd, D.stor, D.one, D.cells] at this hin <;> first | (exact this _ hin) | (subst hin; simp [D.one]; try exact this)
  obtain ⟨hI', hG, hcells⟩ := hI.allocImm cs'.toList [] _ e hr'.flat hone
  simp only [List.append_nil, Array.toArray_toList] at hI'
  have hcsz : cs'.toList.length = n * sz := by
    have := hr'.1
    rw [this]
    have hall : ∀ x ∈ (partsA ρ parts.toList).map (fun x => x.2.cells), x.length = sz := by
      intro ds hds
      obtain ⟨x, hx, rfl⟩ := List.mem_map.1 hds
      exact (hs x hx).1
    rw [elems_all hall, List.length_map, hpl]
  refine hnext _ _ _ _ _ hG (hI'.add (b := w.heap.size) (r := .grow e n n sz) hI.below.size ⟨cs', heap_alloc_new w _, by simpa using hcsz, Nat.le_refl _, hn0, fun p hp => ?_⟩) ?_ (hK _ (hI.fresh (Nat.le_refl _)))
  · simp only [IG.add]
    rw [if_neg (by omega)]
    exact hI.gfresh (Nat.le_refl _) p
  · refine Rep.mkOwn (sz := sz) (by simp [hpl]) (Nat.le_refl _) ?_ ?_
    · intro ds hds
      simp only [List.mem_map] at hds
      obtain ⟨x, hx, rfl⟩ := hds
      simp [(hs x hx).1]
    · have : ((partsA ρ parts.toList).map fun x => x.2.cells.map D.flat).flatten = ((partsA ρ parts.toList).map fun x => x.2.cells).flatten.map D.flat := by
        simp [List.map_flatten, Function.comp_def]
      rw [this]
      exact hcells

section lits
variable {dst : Option Tmp} {ty : TypeId} {pos : String} {aft : Array Edge}
theorem runO_buildSliceOwn {t e n sz : Nat} {parts : Array (Nat × Operand)} {z : List D} (hu : P.underlying t = some (.slice e))
    (hsz : szT P e = some sz) (hz : zeroT P e = some z) (hzl : z.length = sz) (hn : parts.toList.length = n) (hfull : fullParts (partsA (ev env) parts.toList) 0 = true)
    (hs : (partsA (ev env) parts.toList).all (fun x => x.2.cells.length == sz && x.2.stor) = true) (hle : n * sz ≤ 16777216) (hn0 : n ≤ maxLen)
    (h : ∀ b, H b = none → RunO P W f N Q ops l k (put N env dst (.own b n ((partsA (ev env) parts.toList).map fun x => x.2.cells.map D.flat))) (H.set b (.grow e n n sz))) :
    RunO P W f N Q ops (⟨dst, .buildSlice t n parts, ty, pos, aft, none⟩ :: l) k env H :=
  runO_op rfl (opOk_buildSliceOwn rfl hu hsz hz hzl hn hfull (by simpa using hs) hle hn0 h)
theorem runO_sliceNil {t e yt : TypeId} {x : Operand} {xs : List (List D)} (hu : P.underlying t = some (.slice e)) (hx : (ev env x).elems = some xs)
    (h : ∀ b : Bool, (b = true → xs = []) → RunO P W f N Q ops l k (put N env dst (.v (.bool b))) H) :
    RunO P W f N Q ops (⟨dst, .binOp .eql t x (.const (.slice none 0 0)) yt, ty, pos, aft, none⟩ :: l) k env H := runO_op rfl (opOk_sliceNil rfl hu hx h)
theorem runO_append_cells {s x : Operand} {t e sz by_ : Nat} {z : List D} {ys : List (List D)}
    (hu : P.underlying t = some (.slice e)) (hsz : szT P e = some sz) (hby : bytesT P e = some by_) (hz : zeroT P e = some z) (hzl : z.length = sz) (hs : ev env s = .nil) (hx : Src H sz ys (ev env x))
    (hsy : ∀ ds ∈ ys, ds.length = sz) (hlen : ys.length * by_ ≤ 140737488355328) (hlen2 : ys.length ≤ maxLen) (hne : ys ≠ [])
    (h : ∀ b cap rest, H b = none → ys.length ≤ cap → RunO P W f N Q ops l k (put N env dst (.v (.slice (some ⟨b, 0, none⟩) ys.length cap))) (H.set b (.cells (ys.flatten ++ rest) e))) :
    RunO P W f N Q ops (⟨dst, .call ⟨.builtin .append, #[s, x], #[t, t]⟩, ty, pos, aft, none⟩ :: l) k env H :=
  runO_op rfl (opOk_append_cells rfl hu hsz hby hz hzl hs hx hsy hlen hlen2 hne h)
end lits

/-- The slices in cells of ours, only read from here on. -/
theorem Inv.flatCells {b : Nat} {ds : List D} {e : TypeId} (hI : Inv W G H w) (hb : H b = some (.cells ds e)) : Inv W G (H.set b (.cells (ds.map D.flat) e)) w := by
  obtain ⟨h1, cs, hcs, hr, h2, h3⟩ := hI.res b _ hb
  exact hI.add h1 ⟨cs, hcs, hr.flat, h2, h3⟩
theorem run_flatCells {t : List Item} {b : Nat} {ds : List D} {e : TypeId} (hb : H b = some (.cells ds e)) (h : RunA P W f N Q t env (H.set b (.cells (ds.map D.flat) e))) : RunA P W f N Q t env H :=
  fun G a w fr cs hI hE hN hd hfn hk => h G a w fr cs (hI.flatCells hb) hE hN hd hfn hk
theorem coll_stor {H0 H : Heap} {e sz : Nat} {xs : List (List D)} {d : D} (h : Coll H0 e sz xs d H) : d.stor = true ∧ d.cells = [d] ∧ d.one = true := by
  cases h with
  | none h => exact ⟨rfl, rfl, rfl⟩
  | some b cap hb => exact ⟨rfl, rfl, rfl⟩
theorem coll_set {H0 H : Heap} {e sz p : Nat} {xs : List (List D)} {d : D} {r r0 : Res} (h : Coll H0 e sz xs d H) (hp : H0 p = some r0) : Coll (H0.set p r) e sz xs d (H.set p r) := by
  cases h with
  | none h => exact .none h
  | some b cap hb =>
    have hne : p ≠ b := fun e1 => by subst e1; rw [hb] at hp; cases hp
    have hc : (H0.set b (.grow e xs.length cap sz)).set p r = (H0.set p r).set b (.grow e xs.length cap sz) := Heap.set_comm _ _ _ (fun e1 => hne e1.symm)
    rw [hc]
    exact .some b cap (by rw [Heap.set_other _ _ (fun e1 => hne e1.symm)]; exact hb)

/-- A row with room that nobody will write again. -/
theorem run_freezeR {t : List Item} {j b n c sz : Nat} {e : TypeId} {rest : List D} {xs : List (List D)} (hj : env j = .v (.slice (some ⟨b, 0, none⟩) n c)) (hb : H b = some (.cells (xs.flatten ++ rest) e)) (hn : xs.length = n)
    (hc : n ≤ c) (hl : ∀ x ∈ xs, x.length = sz) (h : RunA P W f N Q t (upd env j (.list xs)) (H.del b)) : RunA P W f N Q t env H := by
  intro G a w fr cs hI hE hN hd hfn hk
  obtain ⟨G', hle, hI', hcells⟩ := hI.freeze hb
  have hE' : RepEnv G' a (upd env j (.list xs)) := by
    intro k
    rw [upd_at]
    split
    · rename_i hkj
      have := hE j
      rw [hj] at this
      rw [hkj, this.inv_v]
      refine Rep.mkList hn hc hl ?_
      have := hcells.take xs.flatten.length
      rwa [List.take_left] at this
    · exact (hE k).mono hle
  obtain ⟨G1, w', d, H', v, fr', hS, hG, rest⟩ := h G' a w fr cs hI' hE' hN hd hfn hk
  exact ⟨G1, w', d, H', v, fr', hS, hle.trans hG, rest⟩
end

/-- A row that stands in cells of ours, and that nobody will write again. -/
theorem run_freezeIn {P : Program} {W : World} {f : FuncId} {N : Nat} {Q : D → Heap → Prop} {env : Env} {H : Heap} {t : List Item} {p b n c sz : Nat} {e e' : TypeId} {rest l1 l2 : List D} {xs : List (List D)} (hp : H p = some (.cells (l1 ++ .v (.slice (some ⟨b, 0, none⟩) n c) :: l2) e)) (hb : H b = some (.cells (xs.flatten ++ rest) e')) (hpb : p ≠ b)
    (hn : xs.length = n) (hc : n ≤ c) (hl : ∀ x ∈ xs, x.length = sz) (h : RunA P W f N Q t env ((H.del b).set p (.cells (l1 ++ .list xs :: l2) e))) : RunA P W f N Q t env H := by
  intro G a w fr cs hI hE hN hd hfn hk
  obtain ⟨G', hle, hI', hcells⟩ := hI.freeze hb
  have hp' : (H.del b) p = some (.cells (l1 ++ .v (.slice (some ⟨b, 0, none⟩) n c) :: l2) e) := by rw [Heap.del_at, if_neg hpb]; exact hp
  obtain ⟨h1, vs, hvs, hr, h2, h3⟩ := hI'.res p _ hp'
  have hr' : Reps G' vs (l1 ++ .list xs :: l2) := by
    refine ⟨by have := hr.1; simpa using this, fun k d v hd hv => ?_⟩
    by_cases hk : k = l1.length
    · subst hk
      have hd0 : (l1 ++ D.v (.slice (some ⟨b, 0, none⟩) n c) :: l2)[l1.length]? = some (.v (.slice (some ⟨b, 0, none⟩) n c)) := by simp
      have := (hr.2 _ _ v hd0 hv).inv_v
      simp at hd
      subst hd
      rw [this]
      refine Rep.mkList hn hc hl ?_
      have := hcells.take xs.flatten.length
      rwa [List.take_left] at this
    · refine hr.2 k d v ?_ hv
      rw [List.getElem?_append] at hd ⊢
      split
      · rename_i hlt; rw [if_pos hlt] at hd; exact hd
      · rename_i hlt
        rw [if_neg hlt] at hd
        cases hj : k - l1.length with
        | zero => omega
        | succ j => rw [hj] at hd; simpa using hd
  have hI2 : Inv W G' ((H.del b).set p (.cells (l1 ++ .list xs :: l2) e)) w := hI'.add h1 ⟨vs, hvs, hr', h2, h3⟩
  obtain ⟨G1, w', d, H', v, fr', hS, hG, rest⟩ := h G' a w fr cs hI2 (hE.mono hle) hN hd hfn hk
  exact ⟨G1, w', d, H', v, fr', hS, hle.trans hG, rest⟩

/-- An element of a row. -/
theorem row_elem {sz : Nat} (xs : List (List D)) (rest : List D) (hl : ∀ x ∈ xs, x.length = sz) {i : Nat} (hi : i < xs.length) : ((xs.flatten ++ rest).drop (i * sz)).take sz = xs.getD i [] := by
  have h1 := flatten_drop_take xs i hl hi
  have h2 : xs.flatten.length = xs.length * sz := elems_all hl
  have h3 : i * sz + sz ≤ xs.flatten.length := by
    rw [h2]
    have : (i + 1) * sz ≤ xs.length * sz := Nat.mul_le_mul_right _ hi
    rw [Nat.add_mul] at this
    omega
  rw [List.drop_append_of_le_length (by omega), List.take_append_of_le_length (by rw [List.length_drop]; omega)]
  exact h1
/-- .. written. -/
theorem row_put {sz : Nat} (xs : List (List D)) (rest : List D) (hl : ∀ x ∈ xs, x.length = sz) {i : Nat} (hi : i < xs.length) (y : List D) :
    (xs.flatten ++ rest).take (i * sz) ++ y ++ (xs.flatten ++ rest).drop (i * sz + sz) = (xs.set i y).flatten ++ rest := by
  induction xs generalizing i with
  | nil => simp at hi
  | cons x xs ih =>
    have hx : x.length = sz := hl x (by simp)
    cases i with
    | zero =>
      simp only [Nat.zero_mul, List.take_zero, List.nil_append, Nat.zero_add, List.set_cons_zero, List.flatten_cons, List.append_assoc]
      rw [List.drop_append_of_le_length (by omega), ← hx]
      simp
    | succ i =>
      have := ih (fun x hx => hl x (by simp [hx])) (i := i) (by simpa using hi)
      simp only [List.set_cons_succ, List.flatten_cons, List.append_assoc] at this ⊢
      rw [← this]
      have e1 : (i + 1) * sz = x.length + i * sz := by rw [Nat.add_mul, hx]; omega
      rw [e1, List.take_append, Nat.add_assoc, List.drop_append, List.take_of_length_le (by omega), List.drop_of_length_le (by omega)]
      simp
end Go.Sn
