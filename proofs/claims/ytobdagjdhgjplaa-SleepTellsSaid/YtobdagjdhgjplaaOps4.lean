/-
  A program logic over the kit's `Calls`. Part 7: slices that are made: literals, append.
-/
import Derived.Test.YtobdagjdhgjplaaRegion
namespace Go.Sn
open Go Go.RowKit
set_option linter.unusedVariables false
set_option linter.unusedSimpArgs false

theorem Inv.grow {W : World} {G : IG} {H : Heap} {w : World} (h : Inv W G H w) {b o : Nat} {cs : List Value} (hw : ∀ k c, cs[k]? = some c → w.cell? ⟨b, o + k, none⟩ = some c)
    (h1 : ∀ c ∈ cs, c.oneCell' = true) (hf : ∀ p, o ≤ p → G b p = none) (hH : ∀ r, H b = some r → r.holds (G.add b o cs) w b) : Inv W (G.add b o cs) H w := by
  refine ⟨h.below, fun k p x hx => ?_, fun k r hk => ?_⟩
  · unfold IG.add at hx
    split at hx
    · rename_i hh
      obtain ⟨rfl, h2, h3⟩ := hh
      refine ⟨?_, h1 x (List.mem_of_getElem? hx)⟩
      have := hw _ _ hx
      rwa [Nat.add_sub_cancel' h2] at this
    · exact h.imm k p x hx
  · refine ⟨(h.res k r hk).1, ?_⟩
    by_cases e : k = b
    · subst e; exact hH r hk
    · exact (h.res k r hk).2.gmono (IG.le_add G b o cs hf) (fun p => IG.add_other G o cs e p)

theorem execOp_v' {P : Program} {s : Sem Value} {v : Value} {w w' : World} (h : s.run P w = .ok v w') : (do pure (Next.value (← s)) : Sem Next).run P w = .ok (.value v) w' := by
  simp [h]

/-- A new block whose first cells are immutable. -/
theorem Inv.allocImm {W : World} {G : IG} {H : Heap} {w : World} (h : Inv W G H w) (cs : List Value) (rest : List Value) (ds : List D) (e : TypeId) (hr : Reps G cs ds)
    (h1 : ∀ c ∈ cs, c.oneCell' = true) :
    Inv W (G.add w.heap.size 0 cs) H (w.alloc (.cells (cs ++ rest).toArray e)) ∧ G.le (G.add w.heap.size 0 cs) ∧ CellsAt (G.add w.heap.size 0 cs) w.heap.size 0 ds := by
  have hle : G.le (G.add w.heap.size 0 cs) := IG.le_add G _ 0 cs fun p _ => h.gfresh (Nat.le_refl _) p
  refine ⟨(h.alloc _).grow (fun k c hc => ?_) h1 (fun p _ => h.gfresh (Nat.le_refl _) p) (fun r hr => ?_), hle, fun k d hd => ?_⟩
  · rw [cell_of_row _ _ _ _ e (0, 0) (heap_alloc_new w _)]
    have hk : k < cs.length := (List.getElem?_eq_some_iff.1 hc).1
    simp [List.getElem?_append, hk] at hc ⊢
    exact hc
  · rw [h.fresh (Nat.le_refl _)] at hr; cases hr
  · obtain ⟨c, hc, hrc⟩ := hr.get hd
    exact ⟨c, IG.add_at G _ 0 cs hc, hrc.mono hle⟩

theorem Reps.flat {G : IG} {cs : List Value} {ds : List D} (h : Reps G cs ds) : Reps G cs (ds.map D.flat) := by
  refine ⟨by simp [h.1], fun k d c hd hc => ?_⟩
  rw [List.getElem?_map] at hd
  cases hk : ds[k]? with
  | none => simp [hk] at hd
  | some d' => simp [hk] at hd; subst hd; exact (h.2 k d' c hk hc).flat

/-- All places of a literal, in order. -/
def fullParts : List (Nat × D) → Nat → Bool
  | [], _ => true
  | (i, d) :: l, k => i == k && fullParts l (k + 1)

theorem fillA_full {sz : Nat} : ∀ (l : List (Nat × D)) (k : Nat) (pre cells : List D), fullParts l k = true → (∀ x ∈ l, x.2.cells.length = sz ∧ x.2.stor = true) →
    pre.length = k * sz → cells.length = l.length * sz → fillA (fun i => some (i * sz, sz)) (pre ++ cells) l = some (pre ++ (l.map fun x => x.2.cells).flatten)
  | [], k, pre, cells, _, _, _, hc => by
    have : cells = [] := List.eq_nil_of_length_eq_zero (by simpa using hc)
    subst this
    simp [fillA]
  | (i, d) :: l, k, pre, cells, hf, hs, hp, hc => by
    simp only [fullParts, Bool.and_eq_true, beq_iff_eq] at hf
    obtain ⟨rfl, hf⟩ := hf
    obtain ⟨hlen, hst⟩ := hs (i, d) (by simp)
    simp only at hlen hst
    simp only [List.length_cons, Nat.add_mul, Nat.one_mul] at hc
    unfold fillA
    simp only
    rw [if_pos ⟨hlen, by simp; omega, hst⟩]
    have h1 : (pre ++ cells).take (i * sz) = pre := by rw [← hp]; exact List.take_left
    have h2 : (pre ++ cells).drop (i * sz + sz) = cells.drop sz := by rw [← hp, ← List.drop_drop, List.drop_left]
    rw [h1, h2, fillA_full l (i + 1) (pre ++ d.cells) (cells.drop sz) hf (fun x hx => hs x (by simp [hx])) (by simp [hp, hlen, Nat.add_mul]) (by simp; omega)]
    simp

section
variable {P : Program} {W : World} {f : FuncId} {N : Nat} {Q : D → Heap → Prop} {ops : Array Oper} {l : List Oper} {o : Oper} {k : List Item} {env : Env} {H : Heap}

theorem opOk_buildSlice {ρ : Operand → D} {K : D → Heap → Prop} {t e n sz : Nat} {parts : Array (Nat × Operand)} {z : List D} (ho : o.op = .buildSlice t n parts) (hu : P.underlying t = some (.slice e))
    (hsz : szT P e = some sz) (hz : zeroT P e = some z) (hzl : z.length = sz) (hn : parts.toList.length = n) (hfull : fullParts (partsA ρ parts.toList) 0 = true)
    (hs : ∀ x ∈ partsA ρ parts.toList, x.2.cells.length = sz ∧ x.2.stor = true) (hle : n * sz ≤ 16777216)
    (hK : K (if n = 0 then .nil else .list ((partsA ρ parts.toList).map fun x => x.2.cells.map D.flat)) H) : OpOk P W o ρ H K := by
  intro G a w next Qx hI hρ hnext
  obtain ⟨x, hx, hrx, h1x⟩ := zeroT_run (w := w) (G := G) hz
  have hxs : x.cells.size = sz := by have := hrx.1; simp at this; omega
  let zero : Array Value := if n * sz = 0 then #[] else x.cells
  let init : Array Value := (Array.range (n * sz)).map (zero[· % zero.size]!)
  have hinit : init.size = n * sz := by simp [init]
  have hpl : (partsA ρ parts.toList).length = n := by simp [partsA, hn]
  have hfill := fillA_full (sz := sz) (partsA ρ parts.toList) 0 [] (init.toList.map .v) hfull hs (by simp) (by simp [hpl, hinit])
  simp only [List.nil_append] at hfill
  obtain ⟨cs', hcs', hr'⟩ := fillA_ok (G := G) (fun i => some (i * sz, sz)) _ (fun i x h => h) (partsA ρ parts.toList) (parts.toList.map fun x => (x.1, a.eval x.2)) _ _ init hfill (Reps.self G init.toList) (by simp [partsA]) (fun k p q hp hq => by
      simp only [partsA, List.getElem?_map] at hp hq
      cases hk : parts.toList[k]? with
      | none => rw [hk] at hp; simp at hp
      | some x => rw [hk] at hp hq; simp at hp hq; subst hp; subst hq; exact ⟨rfl, hρ _ (by simp only [ho, Op.operands, List.mem_toArray, List.mem_map]; exact ⟨_, List.mem_of_getElem? hk, rfl⟩)⟩)
  have hmap : (parts.map fun x => (x.1, a.eval x.2)).toList = parts.toList.map fun x => (x.1, a.eval x.2) := by simp
  have hrun : (execOp a.eval o).run P w = .ok (.value (.slice (some ⟨w.heap.size, 0, none⟩) n n)) (w.alloc (.cells cs' e)) := by
    have hle' : ¬ (2 ^ 24 < n * sz) := by omega
    simp only [execOp, ho]
    refine execOp_v' ?_
    simp only [Instr.buildSlice, Sem.run_bind, run_underlying hu, Result.andThen_ok, run_szT hsz, gt_iff_lt, if_neg hle', Sem.run_pure]
    by_cases h0 : n * sz = 0
    · have hz0 : zero = #[] := if_pos h0
      have hi0 : init = (Array.range (n * sz)).map ((#[] : Array Value)[· % (#[] : Array Value).size]!) := by simp only [init, hz0]
      rw [hi0] at hcs'
      simp only [if_pos h0, Sem.run_bind, Sem.run_pure, Result.andThen_ok]
      rw [hmap, hcs']
      simp [newRow]
    · have hz0 : zero = x.cells := if_neg h0
      have hi0 : init = (Array.range (n * sz)).map (x.cells[· % x.cells.size]!) := by simp only [init, hz0]
      rw [hi0] at hcs'
      simp only [if_neg h0, Sem.run_bind, Sem.run_pure, Result.andThen_ok, hx]
      rw [hmap, hcs']
      simp [newRow]
  unfold Oper.wp
  rw [hrun]
  have hone : ∀ c ∈ cs'.toList, c.oneCell' = true := by
    intro c hc
    obtain ⟨i, hi, rfl⟩ := List.getElem_of_mem hc
    have hi' : i < ((partsA ρ parts.toList).map fun x => x.2.cells).flatten.length := by rw [← hr'.1]; exact hi
    have hrep := hr'.2 i _ _ (List.getElem?_eq_getElem hi') (List.getElem?_eq_getElem hi)
    have hmem := List.getElem_mem hi'
    refine hrep.one ?_
    simp only [List.mem_flatten, List.mem_map] at hmem
    obtain ⟨cl, ⟨x, hx, rfl⟩, hin⟩ := hmem
    have := (hs x hx).2
    generalize ((partsA ρ parts.toList).map fun x => x.2.cells).flatten[i] = d at hin
    cases hxd : x.2 <;> simp [hxd, D.stor, D.one, D.cells] at this hin <;> first | (exact this _ hin) | (subst hin; simp [D.one]; try exact this)
  obtain ⟨hI', hG, hcells⟩ := hI.allocImm cs'.toList [] _ e hr'.flat hone
  simp only [List.append_nil, Array.toArray_toList] at hI'
  refine hnext _ _ _ _ _ hG hI' ?_ hK
  split
  · rename_i h0; subst h0; exact .nil1 _
  · refine Rep.mkList (sz := sz) (by simp [hpl]) (Nat.le_refl _) ?_ ?_
    · intro ds hds
      simp only [List.mem_map] at hds
      obtain ⟨x, hx, rfl⟩ := hds
      simp [(hs x hx).1]
    · have : ((partsA ρ parts.toList).map fun x => x.2.cells.map D.flat).flatten = ((partsA ρ parts.toList).map fun x => x.2.cells).flatten.map D.flat := by
        simp [List.map_flatten, Function.comp_def]
      rw [this]
      exact hcells

/-! ### append -/

theorem run_append_zero {t ty e sz : Nat} (hu : P.underlying t = some (.slice e)) (hsz : szT P e = some sz) {w : World} (base : Option Addr) (n c : Nat) (hc : n ≤ c) (x : Option Addr) (cx : Nat) :
    (Builtin.append_ #[t, t] ty #[.slice base n c, .slice x 0 cx]).run P w = .ok (.slice base n c) w := by
  have hf : (Builtin.firstCells sz 0 (.slice x 0 cx)).run P w = .ok #[] w := by
    cases x <;> simp [Builtin.firstCells, loadCells, loadCellsFrom]
  simp only [Builtin.append_, Sem.run_bind, run_underlying hu, Result.andThen_ok, run_szT hsz]
  simp [run_underlying hu, Builtin.lenOf, hc, hf, run_szT hsz]
  cases base <;> simp [storeCells]

theorem infoT {e sz by_ : Nat} {z : List D} (hsz : szT P e = some sz) (hby : bytesT P e = some by_) (hz : zeroT P e = some z) :
    ∃ i : TypeInfo, ∃ x : Value, P.info? e = some i ∧ i.size = sz ∧ i.bytes = by_ ∧ i.zero = some x ∧ x.cells.size = z.length := by
  unfold szT at hsz
  unfold bytesT at hby
  unfold zeroT at hz
  cases hi : P.info? e with
  | none => simp [hi] at hsz
  | some i =>
    simp [hi] at hsz hby hz
    cases hzz : i.zero with
    | none => simp [hzz] at hz
    | some x =>
      simp [hzz] at hz
      exact ⟨i, x, rfl, hsz, hby, hzz, by rw [← hz.2]; simp⟩

theorem wp_value {o : Oper} {a : Act} {w w' : World} {v : Value} {next : Act → World → Prop} {Qx : Exit → Act → World → Prop} (h : (execOp a.eval o).run P w = .ok (.value v) w')
    (hn : next (a.put o.dst v) w') : o.wp P a w next Qx := by
  unfold Oper.wp
  rw [h]
  exact hn

theorem run_append_op {a : Act} {s x : Operand} {t : Nat} (ho : o.op = .call ⟨.builtin .append, #[s, x], #[t, t]⟩) {w w' : World} {v : Value}
    (h : (Builtin.append_ #[t, t] o.type #[a.eval s, a.eval x]).run P w = .ok v w') : (execOp a.eval o).run P w = .ok (.value v) w' := by
  simp [execOp, ho, resolve, invoke, builtin, h]

/-- Elements that follow one another. -/
theorem elems_all {sz : Nat} {xs : List (List D)} (hl : ∀ ds ∈ xs, ds.length = sz) : xs.flatten.length = xs.length * sz := by
  induction xs with
  | nil => simp
  | cons x xs ih => simp [ih (fun ds h => hl ds (by simp [h])), hl x (by simp), Nat.add_mul]; omega

/-- append to an empty slice without room: a new block. -/
theorem opOk_append_nil {ρ : Operand → D} {K : D → Heap → Prop} {s x : Operand} {t e sz by_ : Nat} {z : List D} {ys : List (List D)} (ho : o.op = .call ⟨.builtin .append, #[s, x], #[t, t]⟩)
    (hu : P.underlying t = some (.slice e)) (hsz : szT P e = some sz) (hby : bytesT P e = some by_) (hz : zeroT P e = some z) (hzl : z.length = sz) (hs : ρ s = .nil) (hx : (ρ x).elems = some ys)
    (hsy : ∀ ds ∈ ys, ds.length = sz) (hlen : ys.length * by_ ≤ 140737488355328) (hlen2 : ys.length ≤ maxLen)
    (hK0 : ys = [] → K .nil H) (hK : ys ≠ [] → ∀ b cap, H b = none → K (.own b cap ys) (H.set b (.grow e ys.length cap sz))) : OpOk P W o ρ H K := by
  intro G a w next Qx hI hρ hnext
  obtain ⟨i, zv, hi, hisz, hiby, hiz, hzv⟩ := infoT hsz hby hz
  have hsv := hρ s (by simp [ho, Op.operands, Call.operands])
  rw [hs] at hsv
  rcases (hρ x (by simp [ho, Op.operands, Call.operands])).inv_elems hx with ⟨⟨ax, hxv⟩, rfl⟩ | ⟨b, q, c, sz', hxv, hc, hsz', hcells⟩
  · -- nothing to append
    rcases hsv.inv_nil with hv | ⟨a', hv⟩
    · refine wp_value (run_append_op ho (v := .slice none 0 0) (w' := w) ?_) (hnext _ _ _ G _ (.refl G) hI .nil0 (hK0 rfl))
      rw [hv, hxv]
      exact run_append_zero hu hsz none 0 0 (Nat.le_refl _) ax 0
    · refine wp_value (run_append_op ho (v := .slice (some a') 0 0) (w' := w) ?_) (hnext _ _ _ G _ (.refl G) hI (.nil1 a') (hK0 rfl))
      rw [hv, hxv]
      exact run_append_zero hu hsz _ 0 0 (Nat.le_refl _) ax 0
  · by_cases hy : ys = []
    · subst hy
      rcases hsv.inv_nil with hv | ⟨a', hv⟩
      · refine wp_value (run_append_op ho (v := .slice none 0 0) (w' := w) ?_) (hnext _ _ _ G _ (.refl G) hI .nil0 (hK0 rfl))
        rw [hv, hxv]
        exact run_append_zero hu hsz none 0 0 (Nat.le_refl _) _ c
      · refine wp_value (run_append_op ho (v := .slice (some a') 0 0) (w' := w) ?_) (hnext _ _ _ G _ (.refl G) hI (.nil1 a') (hK0 rfl))
        rw [hv, hxv]
        exact run_append_zero hu hsz _ 0 0 (Nat.le_refl _) _ c
    · obtain ⟨news, hrep, hnews⟩ := hcells.reps
      have hnl : news.length = ys.length * i.size := by rw [hrep.1, elems_all hsy, hisz]
      have hpos : 0 < ys.length := List.length_pos_iff.2 hy
      have hcell : ∀ j u, news[j]? = some u → w.cell? ((⟨b, q, none⟩ : Addr).add j) = some u := fun j u hj => by rw [Addr.add_lit]; exact (hI.imm b _ u (hnews j u hj)).1
      have h63 : (ys.length : Int) ≤ 9223372036854775807 := by simp only [maxLen] at hlen2; omega
      let cap := grownCap w ys.length 0 e
      have hcap : ys.length ≤ cap := grownCap_ge w ys.length 0 e
      let w' := w.drew.alloc (.cells (news.toArray ++ Builtin.zeroCells zv.cells (cap - ys.length)) e)
      have hrun : (Builtin.append_ #[t, t] o.type #[a.eval s, a.eval x]).run P w = .ok (.slice (some ⟨w.heap.size, 0, none⟩) ys.length cap) w' := by
        rw [hxv]
        rcases hsv.inv_nil with hv | ⟨a', hv⟩
        · rw [hv]
          exact run_append_nil (P := P) w t o.type e i zv hu hi hiz ⟨b, q, none⟩ ys.length c news hnl hcell hpos h63 (by rw [hiby]; omega)
        · rw [hv]
          have := run_append_grow (P := P) w t o.type e i zv hu hi hiz a' 0 0 [] (by simp) (by simp) ⟨b, q, none⟩ ys.length c news hnl hcell (by omega) (by simpa using h63)
            (by rw [Nat.zero_add, nextslicecap_zero hpos, hiby]; omega)
          simp only [Nat.zero_add] at this
          simpa using this
      have hone : ∀ c ∈ news, c.oneCell' = true := by
        intro c' hc'
        obtain ⟨j, hj, rfl⟩ := List.getElem_of_mem hc'
        exact (hI.imm b _ _ (hnews j _ (List.getElem?_eq_getElem hj))).2
      obtain ⟨hI', hG, hcl⟩ := hI.drew.allocImm news (Builtin.zeroCells zv.cells (cap - ys.length)).toList ys.flatten e hrep hone
      have hw' : w' = w.drew.alloc (.cells (news ++ (Builtin.zeroCells zv.cells (cap - ys.length)).toList).toArray e) := by
        simp only [w']
        congr 2
        apply Array.ext'
        simp
      rw [← hw'] at hI'
      simp only [World.size_drew] at hI' hG hcl
      refine wp_value (run_append_op ho hrun) (hnext _ _ _ _ _ hG (hI'.add (b := w.heap.size) (r := .grow e ys.length cap sz) hI.below.size ?_) (Rep.mkOwn rfl hcap hsy hcl) (hK hy _ _ (hI.fresh (Nat.le_refl _))))
      refine ⟨news.toArray ++ Builtin.zeroCells zv.cells (cap - ys.length), ?_, ?_, hcap, grownCap_le_maxLen w ys.length 0 e hlen2, fun p hp => ?_⟩
      · simp only [w']; exact heap_alloc_new w.drew _
      · simp only [Array.size_append, List.size_toArray, size_zeroCells, hnl, hzv, hzl, hisz, ← Nat.add_mul]
        congr 1
        omega
      · have : news.length ≤ p := by rw [hnl, hisz]; exact hp
        simp only [IG.add]
        rw [if_neg (by omega)]
        exact hI.gfresh (Nat.le_refl _) p

/-- append to a slice whose room is ours. -/
theorem opOk_append_own {ρ : Operand → D} {K : D → Heap → Prop} {s x : Operand} {t e sz by_ b cap : Nat} {z : List D} {xs ys : List (List D)} (ho : o.op = .call ⟨.builtin .append, #[s, x], #[t, t]⟩)
    (hu : P.underlying t = some (.slice e)) (hsz : szT P e = some sz) (hby : bytesT P e = some by_) (hz : zeroT P e = some z) (hzl : z.length = sz) (hs : ρ s = .own b cap xs) (hx : (ρ x).elems = some ys)
    (hb : H b = some (.grow e xs.length cap sz)) (hsx : ∀ ds ∈ xs, ds.length = sz) (hsy : ∀ ds ∈ ys, ds.length = sz) (hlen : (xs.length + ys.length) * by_ ≤ 140737488355328) (hlen2 : xs.length + ys.length ≤ maxLen)
    (hK : ∀ b' cap', (H.del b) b' = none → K (.own b' cap' (xs ++ ys)) ((H.del b).set b' (.grow e (xs.length + ys.length) cap' sz))) : OpOk P W o ρ H K := by
  intro G a w next Qx hI hρ hnext
  obtain ⟨i, zv, hi, hisz, hiby, hiz, hzv⟩ := infoT hsz hby hz
  have hsv := hρ s (by simp [ho, Op.operands, Call.operands])
  rw [hs] at hsv
  obtain ⟨szx, hv, hnc, hszx, hcx⟩ := hsv.inv_own
  obtain ⟨hWb, cur, hcur, hcs, hnc', hcm, hfree⟩ := hI.res b _ hb
  have hIdel : Inv W G (H.del b) w := hI.weaken fun c r hc => by rw [Heap.del_at] at hc; split at hc; cases hc; exact hc
  -- nothing to append: as it was
  have stay : ys = [] → ∀ (ax : Option Addr) (cx : Nat), a.eval x = .slice ax 0 cx → o.wp P a w next Qx := by
    intro hy ax cx hxv
    subst hy
    refine wp_value (run_append_op ho (v := a.eval s) (w' := w) ?_) (hnext _ (.own b cap (xs ++ [])) ((H.del b).set b (.grow e (xs.length + ([] : List (List D)).length) cap sz)) G _ (.refl G) ?_ (by simpa using hsv) (hK b cap (by simp [Heap.del])))
    · rw [hv, hxv]
      exact run_append_zero hu hsz _ _ _ hnc ax cx
    · exact hIdel.add hWb ⟨cur, hcur, hcs, by simpa using hnc', hcm, by simpa using hfree⟩
  rcases (hρ x (by simp [ho, Op.operands, Call.operands])).inv_elems hx with ⟨⟨ax, hxv⟩, hy⟩ | ⟨bx, q, c, szy, hxv, hc, hsz', hcells⟩
  · exact stay hy ax 0 hxv
  · by_cases hy : ys = []
    · refine stay hy _ c (by rw [hxv, hy]; rfl)
    · obtain ⟨news, hrep, hnews⟩ := hcells.reps
      have hnl : news.length = ys.length * i.size := by rw [hrep.1, elems_all hsy, hisz]
      have hpos : 0 < ys.length := List.length_pos_iff.2 hy
      have hcell : ∀ j u, news[j]? = some u → w.cell? ((⟨bx, q, none⟩ : Addr).add j) = some u := fun j u hj => by rw [Addr.add_lit]; exact (hI.imm bx _ u (hnews j u hj)).1
      have hone : ∀ c ∈ news, c.oneCell' = true := by
        intro c' hc'
        obtain ⟨j, hj, rfl⟩ := List.getElem_of_mem hc'
        exact (hI.imm bx _ _ (hnews j _ (List.getElem?_eq_getElem hj))).2
      have hxl : xs.flatten.length = xs.length * sz := elems_all hsx
      have hsxy : ∀ ds ∈ xs ++ ys, ds.length = sz := by
        intro ds hds
        rcases List.mem_append.1 hds with h | h
        · exact hsx ds h
        · exact hsy ds h
      by_cases hroom : xs.length + ys.length ≤ cap
      · -- in place
        have hfit : xs.length * i.size + news.length ≤ cur.size := by rw [hnl, hcs, hisz, ← Nat.add_mul]; exact Nat.mul_le_mul_right _ hroom
        have hrun := run_append_room (P := P) w t o.type e i hu hi b xs.length cap cur hcur ⟨bx, q, none⟩ ys.length c news hnl hcell hone hroom hfit
        have hrow : (cur.toList.take (xs.length * i.size) ++ news ++ cur.toList.drop (xs.length * i.size + news.length)).toArray = (cur.toList.take (xs.length * i.size) ++ news ++ cur.toList.drop (xs.length * i.size + news.length)).toArray := rfl
        generalize hw' : w.setRow b (cur.toList.take (xs.length * i.size) ++ news ++ cur.toList.drop (xs.length * i.size + news.length)).toArray = w' at hrun
        have hheap : w'.heap[b]? = some (.cells (cur.toList.take (xs.length * i.size) ++ news ++ cur.toList.drop (xs.length * i.size + news.length)).toArray e (0, 0)) := by
          rw [← hw']; exact setRow_heap w b _ _ e _ hcur
        have hother : ∀ k, k ≠ b → w'.heap[k]? = w.heap[k]? := fun k hk => by rw [← hw']; exact setRow_other w b k _ hk
        have hsz0 : w'.heap.size = w.heap.size := by rw [← hw']; simp
        -- the world behind, with what was immutable
        have hI1 : Inv W G (H.del b) w' := by
          refine ⟨hI.below.trans ⟨by rw [← hw']; rfl, by rw [← hw']; rfl, by rw [← hw']; rfl, by omega, fun k hk => hother k (by omega)⟩, fun p u xx hxx => ⟨?_, (hI.imm p u xx hxx).2⟩, fun k r hk => ?_⟩
          · by_cases hp : p = b
            · subst hp
              have hu' : u < xs.length * sz := by
                rcases Nat.lt_or_ge u (xs.length * sz) with h | h
                · exact h
                · rw [hfree u h] at hxx; cases hxx
              have h0 := (hI.imm p u xx hxx).1
              rw [cell_of_row _ _ _ _ e _ hcur] at h0
              rw [cell_of_row _ _ _ _ e _ hheap]
              rw [hisz]
              have hle : xs.length * sz ≤ cur.size := by rw [hisz] at hfit; omega
              simp only [List.getElem?_toArray, List.append_assoc]
              rw [List.getElem?_append_left (by simp; omega), List.getElem?_take, if_pos hu']
              simpa using h0
            · rw [World.cell?_of_block (w := w) (a := ⟨p, u, none⟩) (hother p hp)]
              exact (hI.imm p u xx hxx).1
          · rw [Heap.del_at] at hk
            split at hk
            · cases hk
            · rename_i hkb
              exact ⟨(hI.res k r hk).1, (hI.res k r hk).2.same (hother k hkb)⟩
        have hfree' : ∀ p, xs.length * sz ≤ p → G b p = none := hfree
        have hI2 := hI1.grow (b := b) (o := xs.length * sz) (cs := news) (fun kk cc hcc => by
          rw [cell_of_row _ _ _ _ e _ hheap]
          have hle : xs.length * sz ≤ cur.size := by rw [hisz] at hfit; omega
          have hkk : kk < news.length := (List.getElem?_eq_some_iff.1 hcc).1
          rw [hisz]
          simp only [List.getElem?_toArray, List.append_assoc]
          rw [List.getElem?_append_right (by simp; omega), List.getElem?_append_left (by simp; omega)]
          have : xs.length * sz + kk - (cur.toList.take (xs.length * sz)).length = kk := by simp; omega
          rw [this]; exact hcc) hone hfree' (fun r hr => by simp [Heap.del] at hr)
        have hG : G.le (G.add b (xs.length * sz) news) := IG.le_add G b _ news hfree'
        have hcl : CellsAt (G.add b (xs.length * sz) news) b 0 (xs ++ ys).flatten := by
          rw [List.flatten_append]
          refine CellsAt.append (hcx.mono hG) ?_
          rw [Nat.zero_add, hxl]
          intro kk d hd
          obtain ⟨cc, hcc, hrc⟩ := hrep.get hd
          exact ⟨cc, IG.add_at G b _ news hcc, hrc.mono hG⟩
        refine wp_value (run_append_op ho (by rw [hv, hxv]; exact hrun)) (hnext _ _ _ _ _ hG (hI2.add (b := b) (r := .grow e (xs.length + ys.length) cap sz) hWb ?_) (Rep.mkOwn (by simp) hroom hsxy hcl) (hK b cap (by simp [Heap.del])))
        refine ⟨_, hheap, ?_, hroom, hcm, fun p hp => ?_⟩
        · simp only [List.size_toArray, List.length_append, List.length_take, List.length_drop, Array.length_toList]
          rw [← hcs]
          omega
        · simp only [IG.add]
          rw [hnl, hisz, if_neg (by rw [Nat.add_mul] at hp; omega)]
          exact hfree p (by rw [Nat.add_mul] at hp; omega)
      · -- a new block
        obtain ⟨olds, hrepo, holds⟩ := hcx.reps
        simp only [Nat.zero_add] at holds
        have hol : olds.length = xs.length * i.size := by rw [hrepo.1, hxl, hisz]
        have holdc : ∀ j u, olds[j]? = some u → w.cell? ((⟨b, 0, none⟩ : Addr).add j) = some u := fun j u hj => by rw [Addr.add_lit]; simpa using (hI.imm b _ u (holds j u hj)).1
        have hgt : cap < xs.length + ys.length := by omega
        have hrun := run_append_grow (P := P) w t o.type e i zv hu hi hiz ⟨b, 0, none⟩ xs.length cap olds hol holdc ⟨bx, q, none⟩ ys.length c news hnl hcell hgt
          (by simp only [maxLen] at hlen2; omega) (by rw [hiby]; exact growslice_fits hgt hlen)
        have hone2 : ∀ c ∈ olds ++ news, c.oneCell' = true := by
          intro c' hc'
          rcases List.mem_append.1 hc' with h | h
          · obtain ⟨j, hj, rfl⟩ := List.getElem_of_mem h
            exact (hI.imm b _ _ (holds j _ (List.getElem?_eq_getElem hj))).2
          · exact hone c' h
        obtain ⟨hI', hG, hcl⟩ := hIdel.drew.allocImm (olds ++ news) (Builtin.zeroCells zv.cells (grownCap w (xs.length + ys.length) cap e - (xs.length + ys.length))).toList (xs ++ ys).flatten e
          (by rw [List.flatten_append]; exact hrepo.append hrep) hone2
        have harr : olds.toArray ++ news.toArray ++ Builtin.zeroCells zv.cells (grownCap w (xs.length + ys.length) cap e - (xs.length + ys.length)) =
            ((olds ++ news) ++ (Builtin.zeroCells zv.cells (grownCap w (xs.length + ys.length) cap e - (xs.length + ys.length))).toList).toArray := by
          apply Array.ext'
          simp
        have hcap := grownCap_ge w (xs.length + ys.length) cap e
        have hnone : (H.del b) w.heap.size = none := hIdel.fresh (Nat.le_refl _)
        simp only [World.size_drew] at hI' hG hcl
        rw [harr] at hrun
        refine wp_value (run_append_op ho (by rw [hv, hxv]; exact hrun)) (hnext _ _ _ _ _ hG (hI'.add (b := w.heap.size) (r := .grow e (xs.length + ys.length) (grownCap w (xs.length + ys.length) cap e) sz) hI.below.size ?_)
          (Rep.mkOwn (by simp) hcap hsxy hcl) (hK _ _ hnone))
        refine ⟨_, heap_alloc_new w.drew _, ?_, hcap, grownCap_le_maxLen w _ cap e hlen2, fun p hp => ?_⟩
        · simp only [List.size_toArray, List.length_append, Array.length_toList, size_zeroCells, hnl, hol, hzv, hzl, hisz, ← Nat.add_mul]
          congr 1
          omega
        · have : (olds ++ news).length ≤ p := by rw [List.length_append, hnl, hol, hisz, ← Nat.add_mul]; exact hp
          simp only [IG.add]
          rw [if_neg (by omega)]
          exact hI.gfresh (Nat.le_refl _) p
end
end Go.Sn
