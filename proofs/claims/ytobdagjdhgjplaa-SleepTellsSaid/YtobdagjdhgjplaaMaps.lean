/-
  Maps of our own: made, looked up, written.
-/
import Derived.Test.YtobdagjdhgjplaaMore
import Derived.Maps.Keyed
namespace Go.Sn
open Go Go.RowKit
set_option linter.unusedVariables false
set_option linter.unusedSimpArgs false

/-- The value that an abstract value is, where it is one. -/
def litV : D → Option Value
  | .v x => some x
  | .agg ds => (litsA ds).map fun cs => .agg cs.toArray
  | _ => none

theorem Rep.litV {G : IG} {x v : Value} {d : D} (h : Rep G x d) (hv : litV d = some v) : x = v := by
  cases d with
  | v y => simp only [Sn.litV, Option.some.injEq] at hv; subst hv; exact h.inv_v
  | agg ds =>
    simp only [Sn.litV, Option.map_eq_some_iff] at hv
    obtain ⟨cs, hm, rfl⟩ := hv
    obtain ⟨cs', rfl, hr⟩ := h.inv_agg
    rw [litsA_ok hm hr]
  | _ => simp [Sn.litV] at hv

open Classical in
/-- What stands at a key. -/
noncomputable def getE (es : List (Value × D)) (k : Value) : Option D := (es.find? fun e => decide (e.1 = k)).map (·.2)
open Classical in
/-- The entries behind `m[k] = d`. -/
noncomputable def putE (es : List (Value × D)) (k : Value) (d : D) : List (Value × D) :=
  if (getE es k).isSome then es.map (fun e => if e.1 = k then (k, d) else e) else es ++ [(k, d)]

/-- Entries whose keys the machine can compare, each once. -/
structure KeysOk (P : Program) (kt : TypeId) (es : List (Value × D)) : Prop where
  keyed : ∀ e ∈ es, ∃ l, keyOf P kt e.1 = some l
  nodup : (es.map (·.1)).Nodup

theorem KeysOk.nil (P : Program) (kt : TypeId) : KeysOk P kt [] := ⟨by simp, by simp⟩
open Classical in
theorem KeysOk.put {P : Program} {kt : TypeId} {es : List (Value × D)} (h : KeysOk P kt es) {k : Value} {d : D} {l : Lit} (hk : keyOf P kt k = some l) : KeysOk P kt (putE es k d) := by
  unfold putE
  split
  · rename_i hs
    have hm : (es.map (fun e => if e.1 = k then (k, d) else e)).map (·.1) = es.map (·.1) := by
      rw [List.map_map]
      refine List.map_congr_left fun e he => ?_
      simp only [Function.comp]
      split
      · rename_i e1; exact e1.symm
      · rfl
    refine ⟨fun e he => ?_, by rw [hm]; exact h.nodup⟩
    obtain ⟨e0, h0, rfl⟩ := List.mem_map.1 he
    split
    · exact ⟨l, hk⟩
    · exact h.keyed _ h0
  · rename_i hs
    have hnot : ∀ e ∈ es, e.1 ≠ k := by
      intro e he hke
      apply hs
      unfold getE
      rw [Option.isSome_map, List.find?_isSome]
      exact ⟨e, he, by simpa using hke⟩
    refine ⟨fun e he => ?_, ?_⟩
    · rcases List.mem_append.1 he with he | he
      · exact h.keyed e he
      · rw [List.mem_singleton.1 he]; exact ⟨l, hk⟩
    · rw [List.map_append, List.nodup_append]
      refine ⟨h.nodup, by simp, ?_⟩
      intro a ha b hb
      obtain ⟨e, he, rfl⟩ := List.mem_map.1 ha
      simp at hb
      subst hb
      exact hnot e he

section
variable {P : Program} {W : World} {G : IG} {H : Heap} {w : World}

open Classical in
/-- What the search finds. -/
theorem find_own {kt : TypeId} (K : Maps.Keyed P kt) {es : List (Value × D)} (hk : KeysOk P kt es) {ms : List MapEntry} (hl : ms.length = es.length)
    (hr : ∀ (k : Nat) (m : MapEntry) (e : Value × D), ms[k]? = some m → es[k]? = some e → m.key = e.1 ∧ Rep G m.val e.2) {x : Value} {lx : Lit} (hx : keyOf P kt x = some lx) :
    ((Instr.findKey kt x ms).run P w = .ok none w ∧ getE es x = none) ∨
      ∃ j m d, (Instr.findKey kt x ms).run P w = .ok (some (j, m.val)) w ∧ ms[j]? = some m ∧ m.key = x ∧ es[j]? = some (x, d) ∧ Rep G m.val d ∧ getE es x = some d := by
  have hkeys : ∀ m ∈ ms, ∃ l, keyOf P kt m.key = some l := by
    intro m hm
    obtain ⟨j, hj, rfl⟩ := List.getElem_of_mem hm
    have he : es[j]? = some (es[j]'(by omega)) := List.getElem?_eq_getElem (by omega)
    obtain ⟨h1, _⟩ := hr j _ _ (List.getElem?_eq_getElem hj) he
    rw [h1]
    exact hk.keyed _ (List.getElem_mem _)
  rcases K.find w hx ms hkeys with ⟨h1, h2⟩ | ⟨j, m, h1, h2, h3⟩
  · left
    refine ⟨h1, ?_⟩
    unfold getE
    rw [Option.map_eq_none_iff, List.find?_eq_none]
    intro e he
    obtain ⟨j, hj, rfl⟩ := List.getElem_of_mem he
    have hm : ms[j]? = some (ms[j]'(by omega)) := List.getElem?_eq_getElem (by omega)
    obtain ⟨h4, _⟩ := hr j _ _ hm (List.getElem?_eq_getElem hj)
    simp only [decide_eq_true_eq]
    rw [← h4]
    exact h2 _ (List.getElem_mem _)
  · right
    have hj : j < ms.length := (List.getElem?_eq_some_iff.1 h2).1
    have he : es[j]? = some (es[j]'(by omega)) := List.getElem?_eq_getElem (by omega)
    obtain ⟨h4, h5⟩ := hr j _ _ h2 he
    have hkx : es[j].1 = x := by rw [← h4]; exact h3
    refine ⟨j, m, es[j].2, h1, h2, h3, by rw [he, ← hkx], h5, ?_⟩
    unfold getE
    have hfind : es.find? (fun e => decide (e.1 = x)) = some es[j] := by
      rw [List.find?_eq_some_iff_getElem]
      refine ⟨by simpa using hkx, j, by omega, rfl, fun i hi => ?_⟩
      have hnd := hk.nodup
      rw [List.nodup_iff_pairwise_ne] at hnd
      have := List.pairwise_iff_getElem.1 hnd i j (by simp; omega) (by simp; omega) hi
      simp only [List.getElem_map] at this
      simpa [hkx] using fun e => this (by rw [hkx]; exact e)
    rw [hfind]
    rfl

theorem World.cell?_map {b p : Nat} {ms : Array MapEntry} {ck : Nat} (h : w.heap[b]? = some (.map ms ck)) : w.cell? ⟨b, p, none⟩ = none := by
  simp [World.cell?, h]

def Born (ms : List MapEntry) (ck : Nat) : Prop := ck = ms.length ∧ ∀ (k : Nat) (m : MapEntry), ms[k]? = some m → m.born = k
theorem born_snoc {ms : List MapEntry} {ck : Nat} {k v : Value} (h : Born ms ck) : Born (ms ++ [MapEntry.mk k v ck]) (ck + 1) := by
  obtain ⟨h1, h2⟩ := h
  refine ⟨by simp [h1], fun j m hj => ?_⟩
  rw [List.getElem?_append] at hj
  split at hj
  · exact h2 j m hj
  · cases hkk : j - ms.length with
    | zero => rw [hkk] at hj; simp at hj; subst hj; simp only; omega
    | succ n => rw [hkk] at hj; simp at hj
theorem born_set {ms : List MapEntry} {ck j : Nat} {me : MapEntry} {k v : Value} (h : Born ms ck) (hj : ms[j]? = some me) : Born (ms.set j (MapEntry.mk k v me.born)) ck := by
  obtain ⟨h1, h2⟩ := h
  refine ⟨by simp [h1], fun i m hi => ?_⟩
  rw [List.getElem?_set] at hi
  split at hi
  · rename_i e
    subst e
    have h3 := h2 _ _ hj
    split at hi
    · cases hi; exact h3
    · cases hi
  · exact h2 i m hi

/-- A map of ours, written. -/
theorem Inv.setMap (h : Inv W G H w) {b : Nat} {es es' : List (Value × D)} (hb : H b = some (.map es)) {ms' : List MapEntry} {ck' : Nat} (hl : ms'.length = es'.length)
    (hr : ∀ (k : Nat) (m : MapEntry) (e : Value × D), ms'[k]? = some m → es'[k]? = some e → m.key = e.1 ∧ Rep G m.val e.2) (hs : Born ms' ck') :
    Inv W G (H.set b (.map es')) { w with heap := w.heap.setIfInBounds b (.map ms'.toArray ck') } := by
  obtain ⟨hWb, ms, ck, hms, _, _, _⟩ := h.res b _ hb
  have hlt : b < w.heap.size := (Array.getElem?_eq_some_iff.1 hms).1
  have hother : ∀ k, k ≠ b → (w.heap.setIfInBounds b (.map ms'.toArray ck'))[k]? = w.heap[k]? := fun k hk => by
    rw [Array.getElem?_setIfInBounds]
    rw [if_neg (fun e => hk e.symm)]
  have hset : (w.heap.setIfInBounds b (.map ms'.toArray ck'))[b]? = some (.map ms'.toArray ck') := by
    rw [Array.getElem?_setIfInBounds]
    simp [hlt]
  refine ⟨h.below.trans ⟨rfl, rfl, rfl, by simp, fun k hk => hother k (by omega)⟩, fun p o x hx => ⟨?_, (h.imm p o x hx).2⟩, fun k r hk => ?_⟩
  · have hc := (h.imm p o x hx).1
    have hpb : p ≠ b := fun e => by subst e; rw [World.cell?_map hms] at hc; cases hc
    rw [← hc]
    simp only [World.cell?, hother p hpb]
  · rw [Heap.set_at] at hk
    split at hk
    · rename_i e; subst e; cases hk; exact ⟨hWb, ms', ck', hset, hl, hr, hs⟩
    · rename_i hkb
      exact ⟨(h.res k r hk).1, (h.res k r hk).2.same (hother k hkb)⟩

/-- A type's zero value, as an abstract value. -/
def zeroV (P : Program) (t : TypeId) : Option D :=
  match P.info? t with
  | some i => i.zero.map ofV
  | none => none

theorem run_zeroV {t : TypeId} {d : D} (h : zeroV P t = some d) : ∃ v, (zeroValue t).run P w = .ok v w ∧ Rep G v d := by
  unfold zeroV at h
  cases hi : P.info? t with
  | none => simp [hi] at h
  | some i =>
    simp only [hi, Option.map_eq_some_iff] at h
    obtain ⟨z, hz, rfl⟩ := h
    exact ⟨z, by simp [zeroValue, typeInfo, Sem.run_bind, hi, hz], rep_ofV G z⟩
end

section
variable {P : Program} {W : World} {f : FuncId} {N : Nat} {Q : D → Heap → Prop} {ws : Cl} {ops : Array Oper} {l : List Oper} {o : Oper} {k : List Item} {env : Env} {H : Heap}

theorem opOk_makeMap {ρ : Operand → D} {K : D → Heap → Prop} {t : TypeId} (ho : o.op = .makeMap t none) (hK : ∀ b, H b = none → K (.v (.map (some b))) (H.set b (.map []))) : OpOk P W o ρ H K := by
  intro G a w next Qx hI hρ hnext
  refine wp_value (w' := w.alloc (.map #[] 0)) (v := .map (some w.heap.size)) ?_ (hnext _ _ _ _ _ (.refl G) ((hI.alloc _).add (b := w.heap.size) (r := .map []) hI.below.size ⟨[], 0, (MapKept.heap_alloc w _).1, rfl, by simp, rfl, by simp⟩) (.v _) (hK _ (hI.fresh (Nat.le_refl _))))
  simp only [execOp, ho]
  exact execOp_v' rfl

theorem opOk_lookup {ρ : Operand → D} {K : D → Heap → Prop} {t kt et : TypeId} {m x : Operand} {b : Nat} {es : List (Value × D)} {kv : Value} {lk : Lit} {z : D} (ho : o.op = .lookup t m x false) (hu : P.underlying t = some (.map kt et))
    (KK : Maps.Keyed P kt) (hz : zeroV P et = some z) (hm : ρ m = .v (.map (some b))) (hb : H b = some (.map es)) (hes : KeysOk P kt es) (hx : litV (ρ x) = some kv) (hl : keyOf P kt kv = some lk)
    (hK : K ((getE es kv).getD z) H) : OpOk P W o ρ H K := by
  intro G a w next Qx hI hρ hnext
  have hmv : a.eval m = .map (some b) := by have := hρ m (by simp [ho, Op.operands]); rw [hm] at this; exact this.inv_v
  have hxv : a.eval x = kv := (hρ x (by simp [ho, Op.operands])).litV hx
  obtain ⟨_, ms, ck, hms, hlen, hr, hck, hborn⟩ := hI.res b _ hb
  have hget : (getObj b).run P w = .ok (.map ms.toArray ck) w := MapKept.run_getObj_map hms
  rcases find_own (w := w) KK hes hlen hr hl with ⟨h1, h2⟩ | ⟨j, me, d, h1, h2, h3, h4, h5, h6⟩
  · obtain ⟨zv, hzv, hzr⟩ := run_zeroV (P := P) (G := G) (w := w) hz
    refine wp_value (w' := w) (v := zv) ?_ (hnext _ _ _ _ _ (.refl G) hI hzr (by rw [h2] at hK; exact hK))
    simp only [execOp, ho, hmv, hxv]
    refine execOp_v' ?_
    simp only [Instr.lookup, Sem.run_bind, run_underlying hu, Result.andThen_ok, hget, Sem.run_pure, KK.check w _ hl, h1, hzv]
    rfl
  · refine wp_value (w' := w) (v := me.val) ?_ (hnext _ _ _ _ _ (.refl G) hI h5 (by rw [h6] at hK; exact hK))
    simp only [execOp, ho, hmv, hxv]
    refine execOp_v' ?_
    simp only [Instr.lookup, Sem.run_bind, run_underlying hu, Result.andThen_ok, hget, Sem.run_pure, KK.check w _ hl, h1]
    rfl

open Classical in
theorem opOk_mapUpdate {ρ : Operand → D} {K : D → Heap → Prop} {t kt et : TypeId} {m x y : Operand} {b : Nat} {es : List (Value × D)} {kv : Value} {lk : Lit} (ho : o.op = .mapUpdate t m x y) (hu : P.underlying t = some (.map kt et))
    (KK : Maps.Keyed P kt) (hm : ρ m = .v (.map (some b))) (hb : H b = some (.map es)) (hes : KeysOk P kt es) (hx : litV (ρ x) = some kv) (hl : keyOf P kt kv = some lk)
    (hK : K (.v undef) (H.set b (.map (putE es kv (ρ y))))) : OpOk P W o ρ H K := by
  intro G a w next Qx hI hρ hnext
  have hmv : a.eval m = .map (some b) := by have := hρ m (by simp [ho, Op.operands]); rw [hm] at this; exact this.inv_v
  have hxv : a.eval x = kv := (hρ x (by simp [ho, Op.operands])).litV hx
  have hyv : Rep G (a.eval y) (ρ y) := hρ y (by simp [ho, Op.operands])
  obtain ⟨_, ms, ck, hms, hlen, hr, hck, hborn⟩ := hI.res b _ hb
  have hget : (getObj b).run P w = .ok (.map ms.toArray ck) w := MapKept.run_getObj_map hms
  have key : ∀ (ms' : List MapEntry) (ck' : Nat), ms'.length = (putE es kv (ρ y)).length →
      (∀ (k : Nat) (m : MapEntry) (e : Value × D), ms'[k]? = some m → (putE es kv (ρ y))[k]? = some e → m.key = e.1 ∧ Rep G m.val e.2) → Born ms' ck' →
      (execOp a.eval o).run P w = .ok .skip { w with heap := w.heap.setIfInBounds b (.map ms'.toArray ck') } → o.wp P a w next Qx := by
    intro ms' ck' h1 h2 h3 hrun
    unfold Oper.wp
    rw [hrun]
    exact hnext undef (.v undef) _ G _ (.refl G) (hI.setMap hb h1 h2 h3) (.v _) hK
  rcases find_own (w := w) KK hes hlen hr hl with ⟨h1, h2⟩ | ⟨j, me, d, h1, h2, h3, h4, h5, h6⟩
  · have hput : putE es kv (ρ y) = es ++ [(kv, ρ y)] := by rw [putE, h2]; rfl
    refine key (ms ++ [MapEntry.mk kv (a.eval y) ck]) (ck + 1) (by rw [hput]; simp [hlen]) (fun k m' e hm' he => ?_) (born_snoc ⟨hck, hborn⟩) ?_
    · rw [hput] at he
      rw [List.getElem?_append] at hm' he
      rw [hlen] at hm'
      split at hm'
      · rename_i hk; rw [if_pos hk] at he; exact hr k m' e hm' he
      · rename_i hk
        rw [if_neg hk] at he
        cases hkk : k - es.length with
        | zero => rw [hkk] at hm' he; simp at hm' he; subst hm'; subst he; exact ⟨rfl, hyv⟩
        | succ n => rw [hkk] at hm'; simp at hm'
    · simp only [execOp, ho, hmv, hxv]
      have hrun : (Instr.mapUpdate t (.map (some b)) kv (a.eval y)).run P w = .ok () { w with heap := w.heap.setIfInBounds b (.map (ms ++ [MapEntry.mk kv (a.eval y) ck]).toArray (ck + 1)) } := by
        simp only [Instr.mapUpdate, Sem.run_bind, run_underlying hu, Result.andThen_ok, hget, KK.check w _ hl, h1]
        rw [MapKept.run_setObj_map _ hms]
        simp
      simp [Sem.run_bind, hrun]
  · have hjl : j < ms.length := (List.getElem?_eq_some_iff.1 h2).1
    have hput : putE es kv (ρ y) = es.map (fun e => if e.1 = kv then (kv, ρ y) else e) := by rw [putE, h6]; rfl
    have hnd := hes.nodup
    rw [List.nodup_iff_pairwise_ne] at hnd
    have hpw := List.pairwise_iff_getElem.1 hnd
    refine key (ms.set j (MapEntry.mk kv (a.eval y) me.born)) ck (by rw [hput]; simp [hlen]) (fun k m' e hm' he => ?_) (born_set ⟨hck, hborn⟩ h2) ?_
    · rw [hput, List.getElem?_map, Option.map_eq_some_iff] at he
      obtain ⟨e0, he0, rfl⟩ := he
      rw [List.getElem?_set] at hm'
      by_cases hjk : j = k
      · subst hjk
        rw [if_pos rfl, if_pos hjl] at hm'
        cases hm'
        rw [h4] at he0
        cases he0
        rw [if_pos rfl]
        exact ⟨rfl, hyv⟩
      · rw [if_neg hjk] at hm'
        have hne : e0.1 ≠ kv := by
          intro e
          have hk1 : k < es.length := (List.getElem?_eq_some_iff.1 he0).1
          have hj1 : j < es.length := by omega
          have he1 : es[k].1 = kv := by rw [(List.getElem?_eq_some_iff.1 he0).2]; exact e
          have he2 : es[j].1 = kv := by rw [(List.getElem?_eq_some_iff.1 h4).2]
          rcases Nat.lt_or_ge j k with hlt | hge
          · have := hpw j k (by simpa using hj1) (by simpa using hk1) hlt
            simp only [List.getElem_map] at this
            exact this (he2.trans he1.symm)
          · have := hpw k j (by simpa using hk1) (by simpa using hj1) (by omega)
            simp only [List.getElem_map] at this
            exact this (he1.trans he2.symm)
        rw [if_neg hne]
        exact hr k m' e0 hm' he0
    · simp only [execOp, ho, hmv, hxv]
      have hrun : (Instr.mapUpdate t (.map (some b)) kv (a.eval y)).run P w = .ok () { w with heap := w.heap.setIfInBounds b (.map (ms.set j (MapEntry.mk kv (a.eval y) me.born)).toArray ck) } := by
        have hkey : (((ms.toArray[j]?).map (·.key)).getD kv) = kv := by simp [h2, h3]
        simp only [Instr.mapUpdate, Sem.run_bind, run_underlying hu, Result.andThen_ok, hget, KK.check w _ hl, h1]
        rw [hkey, KK.stays w hl]
        simp only [Result.andThen_ok]
        rw [MapKept.run_setObj_map _ hms]
        have hmod : (ms.toArray.modify j fun e => MapEntry.mk kv (a.eval y) e.born) = (ms.set j (MapEntry.mk kv (a.eval y) me.born)).toArray := by
          apply Array.ext
          · simp
          · intro i h7 h8
            have hi : i < ms.length := by simpa using h8
            rw [Array.getElem_modify]
            simp only [List.getElem_toArray, List.getElem_set]
            split
            · rename_i hji
              subst hji
              have : ms[j] = me := (List.getElem?_eq_some_iff.1 h2).2
              rw [this]
            · rfl
        rw [hmod]
      simp [Sem.run_bind, hrun]

open Classical in
/-- Which place a key has, or will have. -/
noncomputable def idxE (es : List (Value × D)) (k : Value) : Nat := es.findIdx fun e => decide (e.1 = k)
/-- The entries with a place for a key. -/
noncomputable def ensE (es : List (Value × D)) (k : Value) (z : D) : List (Value × D) := if (getE es k).isSome then es else es ++ [(k, z)]
def setE (es : List (Value × D)) (n : Nat) (d : D) : List (Value × D) := es.modify n fun e => (e.1, d)

open Classical in
theorem idxE_some {es : List (Value × D)} {k : Value} {d : D} {j : Nat} (hn : (es.map (·.1)).Nodup) (hj : es[j]? = some (k, d)) : idxE es k = j := by
  have hl : j < es.length := (List.getElem?_eq_some_iff.1 hj).1
  have he : es[j] = (k, d) := (List.getElem?_eq_some_iff.1 hj).2
  unfold idxE
  rw [List.findIdx_eq hl]
  refine ⟨by simp [he], fun i hi => ?_⟩
  rw [List.nodup_iff_pairwise_ne] at hn
  have := List.pairwise_iff_getElem.1 hn i j (by simp; omega) (by simpa using hl) hi
  simp only [List.getElem_map] at this
  rw [he] at this
  simpa using this
open Classical in
theorem idxE_none {es : List (Value × D)} {k : Value} (h : getE es k = none) : idxE es k = es.length := by
  unfold getE at h
  rw [Option.map_eq_none_iff, List.find?_eq_none] at h
  unfold idxE
  rw [List.findIdx_eq_length]
  intro x hx
  have := h x hx
  simpa using this

theorem opOk_mapEntry {ρ : Operand → D} {K : D → Heap → Prop} {t kt et : TypeId} {m x : Operand} {b : Nat} {es : List (Value × D)} {kv : Value} {lk : Lit} {z : D} (ho : o.op = .mapEntry t m x) (hu : P.underlying t = some (.map kt et))
    (KK : Maps.Keyed P kt) (hz : zeroV P et = some z) (hm : ρ m = .v (.map (some b))) (hb : H b = some (.map es)) (hes : KeysOk P kt es) (hx : litV (ρ x) = some kv) (hl : keyOf P kt kv = some lk)
    (hK : K (.tup [(getE es kv).getD z, .v (.int .i64 (idxE es kv : Int))]) (H.set b (.map (ensE es kv z)))) : OpOk P W o ρ H K := by
  intro G a w next Qx hI hρ hnext
  have hmv : a.eval m = .map (some b) := by have := hρ m (by simp [ho, Op.operands]); rw [hm] at this; exact this.inv_v
  have hxv : a.eval x = kv := (hρ x (by simp [ho, Op.operands])).litV hx
  obtain ⟨_, ms, ck, hms, hlen, hr, hck, hborn⟩ := hI.res b _ hb
  have hget : (getObj b).run P w = .ok (.map ms.toArray ck) w := MapKept.run_getObj_map hms
  rcases find_own (w := w) KK hes hlen hr hl with ⟨h1, h2⟩ | ⟨j, me, d, h1, h2, h3, h4, h5, h6⟩
  · obtain ⟨zv, hzv, hzr⟩ := run_zeroV (P := P) (G := G) (w := w) hz
    rw [idxE_none h2] at hK
    have hens : ensE es kv z = es ++ [(kv, z)] := by rw [ensE, h2]; rfl
    rw [h2, hens] at hK
    refine wp_value (w' := { w with heap := w.heap.setIfInBounds b (.map (ms ++ [MapEntry.mk kv zv ck]).toArray (ck + 1)) }) (v := .tuple #[zv, goInt ck]) ?_
      (hnext _ _ _ _ _ (.refl G) (hI.setMap hb (es' := es ++ [(kv, z)]) (by simp [hlen]) (fun k m' e hm' he => ?_) (born_snoc ⟨hck, hborn⟩)) ?_ hK)
    · simp only [execOp, ho, hmv, hxv]
      refine execOp_v' ?_
      simp only [Instr.mapEntry, Sem.run_bind, run_underlying hu, Result.andThen_ok, hget, KK.check w _ hl, h1, hzv]
      rw [MapKept.run_setObj_map _ hms]
      simp
    · rw [List.getElem?_append] at hm' he
      rw [hlen] at hm'
      split at hm'
      · rename_i hk; rw [if_pos hk] at he; exact hr k m' e hm' he
      · rename_i hk
        rw [if_neg hk] at he
        cases hkk : k - es.length with
        | zero => rw [hkk] at hm' he; simp at hm' he; subst hm'; subst he; exact ⟨rfl, hzr⟩
        | succ n => rw [hkk] at hm'; simp at hm'
    · refine Rep.mkTup (cs := [zv, goInt ck]) (Reps.cons (by simpa using hzr) (Reps.cons ?_ (Reps.nil G)))
      rw [hck, hlen]
      exact .v _
  · have hnd := hes.nodup
    rw [idxE_some hnd h4] at hK
    have hens : ensE es kv z = es := by rw [ensE, h6]; rfl
    rw [h6, hens, Heap.set_self hb] at hK
    have hjb := hborn j me h2
    refine wp_value (w' := w) (v := .tuple #[me.val, goInt j]) ?_ (hnext _ _ _ _ _ (.refl G) hI ?_ hK)
    · simp only [execOp, ho, hmv, hxv]
      refine execOp_v' ?_
      have hkey : (((ms.toArray[j]?).map (·.key)).getD kv) = kv := by simp [h2, h3]
      have hbj : ((Option.map (fun x => ((MapEntry.born x : Nat) : Int)) ms.toArray[j]?).getD 0) = (j : Int) := by simp [h2, hjb]
      simp only [Instr.mapEntry, Sem.run_bind, run_underlying hu, Result.andThen_ok, hget, KK.check w _ hl, h1]
      rw [hkey, KK.stays w hl]
      simp only [Result.andThen_ok]
      rw [MapKept.run_setObj_map _ hms, hbj]
      have hmod : (ms.toArray.modify j fun e => { e with key := kv }) = ms.toArray := by
        apply Array.ext'
        rw [Array.toList_modify]
        apply List.ext_getElem (by simp)
        intro i h7 h8
        rw [List.getElem_modify]
        split
        · rename_i e
          subst e
          have : ms[j] = me := (List.getElem?_eq_some_iff.1 h2).2
          simp only [this]
          rw [← h3]
        · rfl
      rw [hmod]
      have hw : { w with heap := w.heap.setIfInBounds b (.map ms.toArray ck) } = w := by
        have : w.heap.setIfInBounds b (.map ms.toArray ck) = w.heap := by
          apply Array.ext_getElem?
          intro i
          rw [Array.getElem?_setIfInBounds]
          split
          · rename_i e
            subst e
            rw [hms]
            split
            · rfl
            · rename_i hlt; exact absurd (Array.getElem?_eq_some_iff.1 hms).1 hlt
          · rfl
        rw [this]
      rw [hw]
      simp
    · exact Rep.mkTup (cs := [me.val, goInt j]) (Reps.cons (by simpa using h5) (Reps.cons (.v _) (Reps.nil G)))

theorem findIdx_stamp {ms : List MapEntry} {ck n : Nat} (h : Born ms ck) (hn : n < ms.length) : ms.findIdx? (fun e => (e.born : Int) == (n : Int)) = some n := by
  rw [List.findIdx?_eq_some_iff_getElem]
  refine ⟨hn, ?_, fun j hj => ?_⟩
  · have := h.2 n ms[n] (List.getElem?_eq_getElem hn)
    simp [this]
  · have := h.2 j (ms[j]'(by omega)) (List.getElem?_eq_getElem (by omega))
    simp [this]
    omega

theorem opOk_entryStore {ρ : Operand → D} {K : D → Heap → Prop} {t : TypeId} {m s x : Operand} {b n : Nat} {es : List (Value × D)} (ho : o.op = .entryStore t m s x)
    (hm : ρ m = .v (.map (some b))) (hb : H b = some (.map es)) (hs : ρ s = .v (.int .i64 (n : Int))) (hn : n < es.length)
    (hK : K (.v undef) (H.set b (.map (setE es n (ρ x))))) : OpOk P W o ρ H K := by
  intro G a w next Qx hI hρ hnext
  have hmv : a.eval m = .map (some b) := by have := hρ m (by simp [ho, Op.operands]); rw [hm] at this; exact this.inv_v
  have hsv : a.eval s = .int .i64 (n : Int) := by have := hρ s (by simp [ho, Op.operands]); rw [hs] at this; exact this.inv_v
  have hyv : Rep G (a.eval x) (ρ x) := hρ x (by simp [ho, Op.operands])
  obtain ⟨_, ms, ck, hms, hlen, hr, hck, hborn⟩ := hI.res b _ hb
  have hget : (getObj b).run P w = .ok (.map ms.toArray ck) w := MapKept.run_getObj_map hms
  have hnm : n < ms.length := by omega
  have hrun : (execOp a.eval o).run P w = .ok .skip { w with heap := w.heap.setIfInBounds b (.map (ms.modify n fun e => { e with val := a.eval x }).toArray ck) } := by
    simp only [execOp, ho, hmv, hsv]
    have h1 : (Instr.entryStore t (.map (some b)) (.int .i64 (n : Int)) (a.eval x)).run P w = .ok () { w with heap := w.heap.setIfInBounds b (.map (ms.modify n fun e => { e with val := a.eval x }).toArray ck) } := by
      have hidx := findIdx_stamp ⟨hck, hborn⟩ hnm
      simp only [Instr.entryStore, Sem.run_bind, Result.andThen_ok, hget, asInt, asIntOf, List.findIdx?_toArray, hidx, Sem.run_pure]
      rw [MapKept.run_setObj_map _ hms]
      simp
    simp [Sem.run_bind, h1]
  unfold Oper.wp
  rw [hrun]
  refine hnext undef (.v undef) _ G _ (.refl G) (hI.setMap hb (es' := setE es n (ρ x)) (by simp [setE, hlen]) (fun k m' e hm' he => ?_) ⟨by simp [hck], fun k m' hm' => ?_⟩) (.v _) hK
  · rw [setE, List.getElem?_modify] at he
    rw [List.getElem?_modify] at hm'
    by_cases hk : n = k
    · simp only [hk, if_true, Option.map_eq_map, Option.map_eq_some_iff] at he hm'
      obtain ⟨m0, hm0, rfl⟩ := hm'
      obtain ⟨e0, he0, rfl⟩ := he
      exact ⟨(hr k m0 e0 hm0 he0).1, hyv⟩
    · simp only [hk, if_false, Option.map_eq_map, Option.map_eq_some_iff, id] at he hm'
      obtain ⟨m0, hm0, rfl⟩ := hm'
      obtain ⟨e0, he0, rfl⟩ := he
      exact hr k m0 e0 hm0 he0
  · rw [List.getElem?_modify] at hm'
    by_cases hk : n = k
    · simp only [hk, if_true, Option.map_eq_map, Option.map_eq_some_iff] at hm'
      obtain ⟨m0, hm0, rfl⟩ := hm'
      exact hborn k m0 hm0
    · simp only [hk, if_false, Option.map_eq_map, Option.map_eq_some_iff, id] at hm'
      obtain ⟨m0, hm0, rfl⟩ := hm'
      exact hborn k m0 hm0

section lits
variable {dst : Option Tmp} {ty : TypeId} {pos : String} {aft : Array Edge}

theorem runO_makeMap {t : TypeId} (h : ∀ b, H b = none → RunO P W f N Q ops l k (put N env dst (.v (.map (some b)))) (H.set b (.map []))) :
    RunO P W f N Q ops (⟨dst, .makeMap t none, ty, pos, aft, none⟩ :: l) k env H := runO_op rfl (opOk_makeMap rfl h)

theorem runD_makeMap {t : TypeId} (h : ∀ b, H b = none → RunD P W f N Q ws ops k (H.set b (.map [])) l (put N env dst (.v (.map (some b))))) :
    RunD P W f N Q ws ops k H (⟨dst, .makeMap t none, ty, pos, aft, none⟩ :: l) env :=
  runD_new (mk := fun b => .v (.map (some b))) rfl rfl (fun H' K hK => opOk_makeMap rfl hK) h
theorem runO_lookup {t kt et : TypeId} {m x : Operand} {b : Nat} {es : List (Value × D)} {kv : Value} {lk : Lit} {z : D} (hu : P.underlying t = some (.map kt et))
    (KK : Maps.Keyed P kt) (hz : zeroV P et = some z) (hm : ev env m = .v (.map (some b))) (hb : H b = some (.map es)) (hes : KeysOk P kt es) (hx : litV (ev env x) = some kv) (hl : keyOf P kt kv = some lk)
    (h : RunO P W f N Q ops l k (put N env dst ((getE es kv).getD z)) H) :
    RunO P W f N Q ops (⟨dst, .lookup t m x false, ty, pos, aft, none⟩ :: l) k env H := runO_op rfl (opOk_lookup rfl hu KK hz hm hb hes hx hl h)

theorem runD_lookup {t kt et : TypeId} {m x : Operand} {b : Nat} {es : List (Value × D)} {kv : Value} {lk : Lit} {z : D} (hu : P.underlying t = some (.map kt et))
    (KK : Maps.Keyed P kt) (hz : zeroV P et = some z) (hm : ev env m = .v (.map (some b))) (hb : H b = some (.map es)) (hes : KeysOk P kt es) (hx : litV (ev env x) = some kv) (hl : keyOf P kt kv = some lk)
    (h : RunD P W f N Q ws ops k H l (put N env dst ((getE es kv).getD z))) :
    RunD P W f N Q ws ops k H (⟨dst, .lookup t m x false, ty, pos, aft, none⟩ :: l) env :=
  runD_op (by simp [opW]) rfl (fun H' hH => opOk_lookup rfl hu KK hz hm (hH.1 (by simp [opR]) (by simp [opR]) _ _ hb rfl) hes hx hl ⟨rfl, rfl⟩) h

theorem runD_lookupG {t kt et : TypeId} {m x : Operand} {b : Nat} {es : List (Value × D)} {kv : Value} {lk : Lit} {z : D} {j : Nat} {g : Bool} {cs : List Bool} (ht : guardA ops env j g = some cs) (hu : P.underlying t = some (.map kt et))
    (KK : Maps.Keyed P kt) (hz : zeroV P et = some z) (hm : stripL cs (ev env m) = .v (.map (some b))) (hb : H b = some (.map es)) (hes : KeysOk P kt es) (hx : litV (stripL cs (ev env x)) = some kv) (hl : keyOf P kt kv = some lk)
    (h : RunD P W f N Q ws ops k H l (put N env dst (wrapL cs ((getE es kv).getD z)))) :
    RunD P W f N Q ws ops k H (⟨dst, .lookup t m x false, ty, pos, aft, some (j, g)⟩ :: l) env :=
  runD_guarded (by simp [opW]) rfl ht (fun H' hH _ => opOk_lookup rfl hu KK hz hm (hH.1 (by simp [opR]) (by simp [opR]) _ _ hb rfl) hes hx hl ⟨rfl, rfl⟩) h

theorem runO_mapUpdate {t kt et : TypeId} {m x y : Operand} {b : Nat} {es : List (Value × D)} {kv : Value} {lk : Lit} (hu : P.underlying t = some (.map kt et))
    (KK : Maps.Keyed P kt) (hm : ev env m = .v (.map (some b))) (hb : H b = some (.map es)) (hes : KeysOk P kt es) (hx : litV (ev env x) = some kv) (hl : keyOf P kt kv = some lk)
    (h : RunO P W f N Q ops l k (put N env dst (.v undef)) (H.set b (.map (putE es kv (ev env y))))) :
    RunO P W f N Q ops (⟨dst, .mapUpdate t m x y, ty, pos, aft, none⟩ :: l) k env H := runO_op rfl (opOk_mapUpdate rfl hu KK hm hb hes hx hl h)

theorem runD_mapUpdate {t kt et : TypeId} {m x y : Operand} {b : Nat} {es : List (Value × D)} {kv : Value} {lk : Lit} (hu : P.underlying t = some (.map kt et))
    (KK : Maps.Keyed P kt) (hm : ev env m = .v (.map (some b))) (hb : H b = some (.map es)) (hes : KeysOk P kt es) (hx : litV (ev env x) = some kv) (hl : keyOf P kt kv = some lk)
    (h : RunD P W f N Q ws ops k (H.set b (.map (putE es kv (ev env y)))) l (put N env dst (.v undef))) :
    RunD P W f N Q ws ops k H (⟨dst, .mapUpdate t m x y, ty, pos, aft, none⟩ :: l) env := runD_turn (.inr (.inl rfl)) rfl hb rfl rfl (fun H' hH => opOk_mapUpdate rfl hu KK hm (hH.1 (by simp [opR]) (by simp [opR]) _ _ hb rfl) hes hx hl ⟨rfl, rfl⟩) h
theorem runO_mapEntry {t kt et : TypeId} {m x : Operand} {b : Nat} {es : List (Value × D)} {kv : Value} {lk : Lit} {z : D} (hu : P.underlying t = some (.map kt et))
    (KK : Maps.Keyed P kt) (hz : zeroV P et = some z) (hm : ev env m = .v (.map (some b))) (hb : H b = some (.map es)) (hes : KeysOk P kt es) (hx : litV (ev env x) = some kv) (hl : keyOf P kt kv = some lk)
    (h : RunO P W f N Q ops l k (put N env dst (.tup [(getE es kv).getD z, .v (.int .i64 (idxE es kv : Int))])) (H.set b (.map (ensE es kv z)))) :
    RunO P W f N Q ops (⟨dst, .mapEntry t m x, ty, pos, aft, none⟩ :: l) k env H := runO_op rfl (opOk_mapEntry rfl hu KK hz hm hb hes hx hl h)

theorem runO_entryStore {t : TypeId} {m s x : Operand} {b n : Nat} {es : List (Value × D)} (hm : ev env m = .v (.map (some b))) (hb : H b = some (.map es)) (hs : ev env s = .v (.int .i64 (n : Int))) (hn : n < es.length)
    (h : RunO P W f N Q ops l k (put N env dst (.v undef)) (H.set b (.map (setE es n (ev env x))))) :
    RunO P W f N Q ops (⟨dst, .entryStore t m s x, ty, pos, aft, none⟩ :: l) k env H := runO_op rfl (opOk_entryStore rfl hm hb hs hn h)

theorem runD_mapEntry {t kt et : TypeId} {m x : Operand} {b : Nat} {es : List (Value × D)} {kv : Value} {lk : Lit} {z : D} (hu : P.underlying t = some (.map kt et))
    (KK : Maps.Keyed P kt) (hz : zeroV P et = some z) (hm : ev env m = .v (.map (some b))) (hb : H b = some (.map es)) (hes : KeysOk P kt es) (hx : litV (ev env x) = some kv) (hl : keyOf P kt kv = some lk)
    (h : RunD P W f N Q ws ops k (H.set b (.map (ensE es kv z))) l (put N env dst (.tup [(getE es kv).getD z, .v (.int .i64 (idxE es kv : Int))]))) :
    RunD P W f N Q ws ops k H (⟨dst, .mapEntry t m x, ty, pos, aft, none⟩ :: l) env :=
  runD_turn (.inr (.inl rfl)) rfl hb rfl rfl (fun H' hH => opOk_mapEntry rfl hu KK hz hm (hH.1 (by simp [opR]) (by simp [opR]) _ _ hb rfl) hes hx hl ⟨rfl, rfl⟩) h

theorem runD_entryStore {t : TypeId} {m s x : Operand} {b n : Nat} {es : List (Value × D)} (hm : ev env m = .v (.map (some b))) (hb : H b = some (.map es)) (hs : ev env s = .v (.int .i64 (n : Int))) (hn : n < es.length)
    (h : RunD P W f N Q ws ops k (H.set b (.map (setE es n (ev env x)))) l (put N env dst (.v undef))) :
    RunD P W f N Q ws ops k H (⟨dst, .entryStore t m s x, ty, pos, aft, none⟩ :: l) env :=
  runD_turn (.inr (.inl rfl)) rfl hb rfl rfl (fun H' hH => opOk_entryStore rfl hm (hH.1 (by simp [opR]) (by simp [opR]) _ _ hb rfl) hs hn ⟨rfl, rfl⟩) h
end lits
end

/-! ### typed entries -/
section
variable {K V : Type} [DecidableEq K] (kc : K → Value) (vc : V → D)

/-- The entries of a typed list. -/
def entC (l : List (K × V)) : List (Value × D) := l.map fun x => (kc x.1, vc x.2)
def getM (l : List (K × V)) (k : K) : Option V := (l.find? fun x => decide (x.1 = k)).map (·.2)
def putM (l : List (K × V)) (k : K) (v : V) : List (K × V) := if (getM l k).isSome then l.map (fun x => if x.1 = k then (k, v) else x) else l ++ [(k, v)]

variable {kc vc}
theorem getE_ent (hinj : ∀ a b, kc a = kc b → a = b) (l : List (K × V)) (k : K) : getE (entC kc vc l) (kc k) = (getM l k).map vc := by
  unfold getE getM entC
  rw [List.find?_map]
  have hp : ((fun e : Value × D => @decide (e.1 = kc k) (Classical.propDecidable _)) ∘ fun x : K × V => (kc x.1, vc x.2)) = fun x => decide (x.1 = k) := by
    funext x
    simp only [Function.comp]
    rw [Bool.eq_iff_iff]
    simp only [decide_eq_true_eq]
    exact ⟨fun h => hinj _ _ h, fun h => by rw [h]⟩
  rw [hp]
  cases l.find? (fun x => decide (x.1 = k)) <;> rfl

open Classical in
theorem putE_ent (hinj : ∀ a b, kc a = kc b → a = b) (l : List (K × V)) (k : K) (v : V) : putE (entC kc vc l) (kc k) (vc v) = entC kc vc (putM l k v) := by
  unfold putE putM
  rw [getE_ent hinj]
  cases hg : getM l k with
  | none => simp [entC]
  | some w =>
    simp only [Option.map_some, Option.isSome_some, if_true]
    unfold entC
    rw [List.map_map, List.map_map]
    refine List.map_congr_left fun x _ => ?_
    simp only [Function.comp]
    by_cases h : x.1 = k
    · rw [if_pos h, if_pos (by rw [h])]
    · rw [if_neg h, if_neg (fun e => h (hinj _ _ e))]

theorem getM_put (l : List (K × V)) (k k' : K) (v : V) : getM (putM l k v) k' = if k = k' then some v else getM l k' := by
  unfold putM
  split
  · rename_i hs
    unfold getM at hs ⊢
    rw [Option.isSome_map, List.find?_isSome] at hs
    obtain ⟨x, hx, hxk⟩ := hs
    simp only [decide_eq_true_eq] at hxk
    rw [List.find?_map]
    by_cases hk : k = k'
    · subst hk
      rw [if_pos rfl]
      have hp : ((fun x : K × V => decide (x.1 = k)) ∘ fun x => if x.1 = k then (k, v) else x) = fun x => decide (x.1 = k) := by
        funext y
        simp only [Function.comp]
        by_cases h : y.1 = k <;> simp [h]
      rw [hp]
      cases hf : l.find? (fun x => decide (x.1 = k)) with
      | none => rw [List.find?_eq_none] at hf; exact absurd (by simpa using hxk) (hf x hx)
      | some y =>
        have := List.find?_some hf
        simp only [decide_eq_true_eq] at this
        simp [this]
    · rw [if_neg hk]
      have hp : ((fun x : K × V => decide (x.1 = k')) ∘ fun x => if x.1 = k then (k, v) else x) = fun x => decide (x.1 = k') := by
        funext y
        simp only [Function.comp]
        by_cases h : y.1 = k
        · simp [h, hk]
        · simp [h]
      rw [hp]
      cases hf : l.find? (fun x => decide (x.1 = k')) with
      | none => rfl
      | some y =>
        have := List.find?_some hf
        simp only [decide_eq_true_eq] at this
        have hne : ¬ y.1 = k := fun e => hk (e.symm.trans this)
        simp [hne]
  · rename_i hs
    unfold getM at hs ⊢
    rw [List.find?_append]
    by_cases hk : k = k'
    · subst hk
      rw [if_pos rfl]
      have : l.find? (fun x => decide (x.1 = k)) = none := by
        cases hf : l.find? (fun x => decide (x.1 = k)) with
        | none => rfl
        | some y => rw [hf] at hs; exact absurd rfl hs
      rw [this]
      simp
    · rw [if_neg hk]
      cases l.find? (fun x => decide (x.1 = k')) with
      | none => simp [hk]
      | some y => rfl

/-- Which place a key has, or will have. -/
def idxM (l : List (K × V)) (k : K) : Nat := l.findIdx fun x => decide (x.1 = k)
def ensM (l : List (K × V)) (k : K) (z : V) : List (K × V) := if (getM l k).isSome then l else l ++ [(k, z)]
def setM (l : List (K × V)) (n : Nat) (v : V) : List (K × V) := l.modify n fun x => (x.1, v)

theorem idxE_ent (hinj : ∀ a b, kc a = kc b → a = b) (l : List (K × V)) (k : K) : idxE (entC kc vc l) (kc k) = idxM l k := by
  unfold idxE idxM entC
  rw [List.findIdx_map]
  congr 1
  funext x
  simp only [Function.comp]
  rw [Bool.eq_iff_iff]
  simp only [decide_eq_true_eq]
  exact ⟨fun h => hinj _ _ h, fun h => by rw [h]⟩
theorem ensE_ent (hinj : ∀ a b, kc a = kc b → a = b) (l : List (K × V)) (k : K) (z : V) : ensE (entC kc vc l) (kc k) (vc z) = entC kc vc (ensM l k z) := by
  unfold ensE ensM
  rw [getE_ent hinj]
  cases getM l k <;> simp [entC]
omit [DecidableEq K] in
theorem setE_ent (l : List (K × V)) (n : Nat) (v : V) : setE (entC kc vc l) n (vc v) = entC kc vc (setM l n v) := by
  unfold setE setM entC
  apply List.ext_getElem (by simp)
  intro i h1 h2
  simp only [List.getElem_modify, List.getElem_map]
  split <;> rfl
omit [DecidableEq K] in
theorem entC_length (l : List (K × V)) : (entC kc vc l).length = l.length := by simp [entC]

theorem getM_none {l : List (K × V)} {k : K} (h : getM l k = none) : ∀ x ∈ l, x.1 ≠ k := by
  unfold getM at h
  rw [Option.map_eq_none_iff, List.find?_eq_none] at h
  intro x hx
  simpa using h x hx
theorem getM_none_of {l : List (K × V)} {k : K} (h : ∀ x ∈ l, x.1 ≠ k) : getM l k = none := by
  unfold getM
  rw [Option.map_eq_none_iff, List.find?_eq_none]
  intro x hx
  simpa using h x hx
theorem getM_some {l : List (K × V)} {k : K} {v : V} (h : getM l k = some v) : (k, v) ∈ l := by
  unfold getM at h
  rw [Option.map_eq_some_iff] at h
  obtain ⟨x, hx, rfl⟩ := h
  have h1 := List.find?_some hx
  simp only [decide_eq_true_eq] at h1
  rw [← h1]
  exact List.mem_of_find?_eq_some hx
theorem getM_of_mem {l : List (K × V)} (hn : (l.map (·.1)).Nodup) {k : K} {v : V} (h : (k, v) ∈ l) : getM l k = some v := by
  induction l with
  | nil => cases h
  | cons x l ih =>
    simp only [List.map_cons, List.nodup_cons] at hn
    unfold getM
    rw [List.find?_cons]
    by_cases hx : x.1 = k
    · simp only [hx, decide_true, Option.map_some, Option.some.injEq]
      rcases List.mem_cons.1 h with e | e
      · rw [← e]
      · exact absurd (List.mem_map.2 ⟨_, e, hx.symm⟩) hn.1
    · simp only [hx, decide_false]
      rcases List.mem_cons.1 h with e | e
      · exact absurd (by rw [← e]) hx
      · exact ih hn.2 e
theorem putM_new {l : List (K × V)} {k : K} {v : V} (h : getM l k = none) : putM l k v = l ++ [(k, v)] := by unfold putM; rw [h]; rfl
theorem idxM_none {l : List (K × V)} {k : K} (h : getM l k = none) : idxM l k = l.length := by
  unfold idxM
  rw [List.findIdx_eq_length]
  intro x hx
  simpa using getM_none h x hx
theorem idxM_lt (l : List (K × V)) (k : K) (z : V) : idxM l k < (ensM l k z).length := by
  unfold ensM
  split
  · rename_i hs
    rw [Option.isSome_iff_exists] at hs
    obtain ⟨v, hv⟩ := hs
    unfold idxM
    rw [List.findIdx_lt_length]
    exact ⟨_, getM_some hv, by simp⟩
  · rename_i hs
    rw [idxM_none (by simpa using hs)]
    simp
theorem setM_ensM {l : List (K × V)} (hn : (l.map (·.1)).Nodup) (k : K) (z v : V) : setM (ensM l k z) (idxM l k) v = putM l k v := by
  unfold ensM putM
  split
  · rename_i hs
    rw [Option.isSome_iff_exists] at hs
    obtain ⟨v0, hv0⟩ := hs
    have hmem := getM_some hv0
    have hlt : idxM l k < l.length := by
      unfold idxM
      rw [List.findIdx_lt_length]
      exact ⟨_, hmem, by simp⟩
    have hkey : (l[idxM l k]).1 = k := by
      have : decide ((l[idxM l k]).1 = k) = true := List.findIdx_getElem (xs := l) (p := fun x : K × V => decide (x.1 = k)) (w := hlt)
      simpa using this
    unfold setM
    apply List.ext_getElem (by simp)
    intro i h1 h2
    simp only [List.getElem_modify, List.getElem_map]
    split
    · rename_i e
      have hk : l[i].1 = k := Eq.trans (by simp only [e]) hkey
      rw [if_pos hk, hk]
    · rename_i e
      have hi : i < l.length := by simpa using h2
      rw [if_neg]
      intro hk
      rw [List.nodup_iff_pairwise_ne] at hn
      have hpw := List.pairwise_iff_getElem.1 hn
      rcases Nat.lt_or_ge i (idxM l k) with h | h
      · have := hpw i (idxM l k) (by simpa using hi) (by simpa using hlt) h
        simp only [List.getElem_map] at this
        exact this (hk.trans hkey.symm)
      · have := hpw (idxM l k) i (by simpa using hlt) (by simpa using hi) (by omega)
        simp only [List.getElem_map] at this
        exact this (hkey.trans hk.symm)
  · rename_i hs
    rw [idxM_none (by simpa using hs)]
    unfold setM
    apply List.ext_getElem (by simp)
    intro i h1 h2
    simp only [List.getElem_modify, List.getElem_append]
    split
    · rename_i e; subst e; simp
    · rename_i e
      simp only [List.length_append, List.length_cons, List.length_nil] at h2
      have : i < l.length := by omega
      simp [this]
theorem keysM_put {l : List (K × V)} (k : K) (v : V) (hn : (l.map (·.1)).Nodup) : ((putM l k v).map (·.1)).Nodup := by
  unfold putM
  split
  · have : (l.map (fun x => if x.1 = k then (k, v) else x)).map (·.1) = l.map (·.1) := by
      rw [List.map_map]
      refine List.map_congr_left fun x _ => ?_
      simp only [Function.comp]
      split
      · rename_i e; exact e.symm
      · rfl
    rw [this]; exact hn
  · rename_i hs
    rw [List.map_append, List.nodup_append]
    refine ⟨hn, by simp, ?_⟩
    intro a ha b hb
    obtain ⟨x, hx, rfl⟩ := List.mem_map.1 ha
    simp at hb
    subst hb
    exact getM_none (by simpa using hs) x hx
theorem keysM_ens {l : List (K × V)} (k : K) (z : V) (hn : (l.map (·.1)).Nodup) : ((ensM l k z).map (·.1)).Nodup := by
  unfold ensM
  split
  · exact hn
  · rename_i hs
    have := keysM_put k z hn
    rwa [putM_new (by simpa using hs)] at this
omit [DecidableEq K] in
theorem keysOk_ent {P : Program} {kt : TypeId} (hinj : ∀ a b, kc a = kc b → a = b) {l : List (K × V)} (hk : ∀ x ∈ l, ∃ lit, keyOf P kt (kc x.1) = some lit) (hn : (l.map (·.1)).Nodup) : KeysOk P kt (entC kc vc l) := by
  refine ⟨fun e he => ?_, ?_⟩
  · obtain ⟨x, hx, rfl⟩ := List.mem_map.1 he
    exact hk x hx
  · have : (entC kc vc l).map (·.1) = (l.map (·.1)).map kc := by simp [entC, List.map_map, Function.comp]
    rw [this]
    rw [List.nodup_iff_pairwise_ne, List.pairwise_map]
    rw [List.nodup_iff_pairwise_ne] at hn
    exact hn.imp fun h e => h (hinj _ _ e)

/-! ### typed maps -/

/-- A map's type: keys, values, which keys may be. -/
structure MT (P : Program) (t : TypeId) (kc : K → Value) (vc : V → D) (ok : K → Prop) (z : V) : Prop where
  ex : ∃ kt et, P.underlying t = some (.map kt et) ∧ Maps.Keyed P kt ∧ (∀ k, ok k → ∃ l, keyOf P kt (kc k) = some l) ∧ zeroV P et = some (vc z)
  inj : ∀ a b, kc a = kc b → a = b
def MOk (ok : K → Prop) (l : List (K × V)) : Prop := (∀ x ∈ l, ok x.1) ∧ (l.map (·.1)).Nodup
omit [DecidableEq K] in
theorem MOk.nil (ok : K → Prop) : MOk (V := V) ok [] := ⟨by simp, by simp⟩
theorem MOk.put {ok : K → Prop} {l : List (K × V)} (h : MOk ok l) {k : K} (hk : ok k) (v : V) : MOk ok (putM l k v) := by
  refine ⟨fun x hx => ?_, keysM_put k v h.2⟩
  unfold putM at hx
  split at hx
  · obtain ⟨y, hy, rfl⟩ := List.mem_map.1 hx
    split
    · exact hk
    · exact h.1 y hy
  · rcases List.mem_append.1 hx with h1 | h1
    · exact h.1 x h1
    · rw [List.mem_singleton.1 h1]; exact hk
theorem MOk.ens {ok : K → Prop} {l : List (K × V)} (h : MOk ok l) {k : K} (hk : ok k) (v : V) : MOk ok (ensM l k v) := by
  refine ⟨fun x hx => ?_, keysM_ens k v h.2⟩
  unfold ensM at hx
  split at hx
  · exact h.1 x hx
  · rcases List.mem_append.1 hx with h1 | h1
    · exact h.1 x h1
    · rw [List.mem_singleton.1 h1]; exact hk

variable {P : Program} {W : World} {f : FuncId} {N : Nat} {Q : D → Heap → Prop} {ws : Cl} {ops : Array Oper} {ol : List Oper} {kk : List Item} {env : Env} {H : Heap}
variable {dst : Option Tmp} {ty : TypeId} {pos : String} {aft : Array Edge} {ok : K → Prop} {z : V} {t : TypeId} {l : List (K × V)} {k : K} {b : Nat}

theorem runO_lookupM (M : MT P t kc vc ok z) {m x : Operand} (hm : ev env m = .v (.map (some b))) (hb : H b = some (.map (entC kc vc l))) (hl : MOk ok l) (hx : litV (ev env x) = some (kc k)) (hk : ok k)
    (h : RunO P W f N Q ops ol kk (put N env dst (vc ((getM l k).getD z))) H) : RunO P W f N Q ops (⟨dst, .lookup t m x false, ty, pos, aft, none⟩ :: ol) kk env H := by
  obtain ⟨⟨kt, et, hu, KK, hkey, hz⟩, hinj⟩ := M
  obtain ⟨lk, hlk⟩ := hkey k hk
  refine runO_lookup hu KK hz hm hb (keysOk_ent hinj (fun x hx => hkey _ (hl.1 x hx)) hl.2) hx hlk ?_
  rw [getE_ent hinj]
  cases hg : getM l k <;> rw [hg] at h <;> exact h
theorem runD_lookupM (M : MT P t kc vc ok z) {m x : Operand} (hm : ev env m = .v (.map (some b))) (hb : H b = some (.map (entC kc vc l))) (hl : MOk ok l) (hx : litV (ev env x) = some (kc k)) (hk : ok k)
    (h : RunD P W f N Q ws ops kk H ol (put N env dst (vc ((getM l k).getD z)))) : RunD P W f N Q ws ops kk H (⟨dst, .lookup t m x false, ty, pos, aft, none⟩ :: ol) env := by
  obtain ⟨⟨kt, et, hu, KK, hkey, hz⟩, hinj⟩ := M
  obtain ⟨lk, hlk⟩ := hkey k hk
  refine runD_lookup hu KK hz hm hb (keysOk_ent hinj (fun x hx => hkey _ (hl.1 x hx)) hl.2) hx hlk ?_
  rw [getE_ent hinj]
  cases hg : getM l k <;> rw [hg] at h <;> exact h
theorem runD_lookupMG (M : MT P t kc vc ok z) {m x : Operand} {j : Nat} {g : Bool} {cs : List Bool} (ht : guardA ops env j g = some cs) (hm : stripL cs (ev env m) = .v (.map (some b))) (hb : H b = some (.map (entC kc vc l))) (hl : MOk ok l) (hx : litV (stripL cs (ev env x)) = some (kc k)) (hk : ok k)
    (h : RunD P W f N Q ws ops kk H ol (put N env dst (wrapL cs (vc ((getM l k).getD z))))) : RunD P W f N Q ws ops kk H (⟨dst, .lookup t m x false, ty, pos, aft, some (j, g)⟩ :: ol) env := by
  obtain ⟨⟨kt, et, hu, KK, hkey, hz⟩, hinj⟩ := M
  obtain ⟨lk, hlk⟩ := hkey k hk
  refine runD_lookupG ht hu KK hz hm hb (keysOk_ent hinj (fun x hx => hkey _ (hl.1 x hx)) hl.2) hx hlk ?_
  rw [getE_ent hinj]
  cases hg : getM l k <;> rw [hg] at h <;> exact h
theorem runO_mapUpdateM (M : MT P t kc vc ok z) {m x y : Operand} {v : V} (hm : ev env m = .v (.map (some b))) (hb : H b = some (.map (entC kc vc l))) (hl : MOk ok l) (hx : litV (ev env x) = some (kc k)) (hk : ok k) (hy : ev env y = vc v)
    (h : RunO P W f N Q ops ol kk (put N env dst (.v undef)) (H.set b (.map (entC kc vc (putM l k v))))) : RunO P W f N Q ops (⟨dst, .mapUpdate t m x y, ty, pos, aft, none⟩ :: ol) kk env H := by
  obtain ⟨⟨kt, et, hu, KK, hkey, hz⟩, hinj⟩ := M
  obtain ⟨lk, hlk⟩ := hkey k hk
  refine runO_mapUpdate hu KK hm hb (keysOk_ent hinj (fun x hx => hkey _ (hl.1 x hx)) hl.2) hx hlk ?_
  rw [hy, putE_ent hinj]
  exact h
theorem runD_mapUpdateM (M : MT P t kc vc ok z) {m x y : Operand} {v : V} (hm : ev env m = .v (.map (some b))) (hb : H b = some (.map (entC kc vc l))) (hl : MOk ok l) (hx : litV (ev env x) = some (kc k)) (hk : ok k) (hy : ev env y = vc v)
    (h : RunD P W f N Q ws ops kk (H.set b (.map (entC kc vc (putM l k v)))) ol (put N env dst (.v undef))) : RunD P W f N Q ws ops kk H (⟨dst, .mapUpdate t m x y, ty, pos, aft, none⟩ :: ol) env := by
  obtain ⟨⟨kt, et, hu, KK, hkey, hz⟩, hinj⟩ := M
  obtain ⟨lk, hlk⟩ := hkey k hk
  refine runD_mapUpdate hu KK hm hb (keysOk_ent hinj (fun x hx => hkey _ (hl.1 x hx)) hl.2) hx hlk ?_
  rw [hy, putE_ent hinj]
  exact h
theorem runO_mapEntryM (M : MT P t kc vc ok z) {m x : Operand} (hm : ev env m = .v (.map (some b))) (hb : H b = some (.map (entC kc vc l))) (hl : MOk ok l) (hx : litV (ev env x) = some (kc k)) (hk : ok k)
    (h : RunO P W f N Q ops ol kk (put N env dst (.tup [vc ((getM l k).getD z), .v (.int .i64 (idxM l k : Int))])) (H.set b (.map (entC kc vc (ensM l k z))))) : RunO P W f N Q ops (⟨dst, .mapEntry t m x, ty, pos, aft, none⟩ :: ol) kk env H := by
  obtain ⟨⟨kt, et, hu, KK, hkey, hz⟩, hinj⟩ := M
  obtain ⟨lk, hlk⟩ := hkey k hk
  refine runO_mapEntry hu KK hz hm hb (keysOk_ent hinj (fun x hx => hkey _ (hl.1 x hx)) hl.2) hx hlk ?_
  rw [getE_ent hinj, idxE_ent hinj, ensE_ent hinj]
  cases hg : getM l k <;> rw [hg] at h <;> exact h
theorem runD_mapEntryM (M : MT P t kc vc ok z) {m x : Operand} (hm : ev env m = .v (.map (some b))) (hb : H b = some (.map (entC kc vc l))) (hl : MOk ok l) (hx : litV (ev env x) = some (kc k)) (hk : ok k)
    (h : RunD P W f N Q ws ops kk (H.set b (.map (entC kc vc (ensM l k z)))) ol (put N env dst (.tup [vc ((getM l k).getD z), .v (.int .i64 (idxM l k : Int))]))) : RunD P W f N Q ws ops kk H (⟨dst, .mapEntry t m x, ty, pos, aft, none⟩ :: ol) env := by
  obtain ⟨⟨kt, et, hu, KK, hkey, hz⟩, hinj⟩ := M
  obtain ⟨lk, hlk⟩ := hkey k hk
  refine runD_mapEntry hu KK hz hm hb (keysOk_ent hinj (fun x hx => hkey _ (hl.1 x hx)) hl.2) hx hlk ?_
  rw [getE_ent hinj, idxE_ent hinj, ensE_ent hinj]
  cases hg : getM l k <;> rw [hg] at h <;> exact h
/-- The store behind an entry that was made for it. -/
theorem runO_entryStoreM (M : MT P t kc vc ok z) {m s x : Operand} {v : V} (hm : ev env m = .v (.map (some b))) (hb : H b = some (.map (entC kc vc (ensM l k z)))) (hl : MOk ok l) (hs : ev env s = .v (.int .i64 (idxM l k : Int))) (hy : ev env x = vc v)
    (h : RunO P W f N Q ops ol kk (put N env dst (.v undef)) (H.set b (.map (entC kc vc (putM l k v))))) : RunO P W f N Q ops (⟨dst, .entryStore t m s x, ty, pos, aft, none⟩ :: ol) kk env H := by
  refine runO_entryStore hm hb hs (by rw [entC_length]; exact idxM_lt l k z) ?_
  rw [hy, setE_ent, setM_ensM hl.2]
  exact h
theorem runD_entryStoreM (M : MT P t kc vc ok z) {m s x : Operand} {v : V} (hm : ev env m = .v (.map (some b))) (hb : H b = some (.map (entC kc vc (ensM l k z)))) (hl : MOk ok l) (hs : ev env s = .v (.int .i64 (idxM l k : Int))) (hy : ev env x = vc v)
    (h : RunD P W f N Q ws ops kk (H.set b (.map (entC kc vc (putM l k v)))) ol (put N env dst (.v undef))) : RunD P W f N Q ws ops kk H (⟨dst, .entryStore t m s x, ty, pos, aft, none⟩ :: ol) env := by
  refine runD_entryStore hm hb hs (by rw [entC_length]; exact idxM_lt l k z) ?_
  rw [hy, setE_ent, setM_ensM hl.2]
  exact h
end
end Go.Sn
