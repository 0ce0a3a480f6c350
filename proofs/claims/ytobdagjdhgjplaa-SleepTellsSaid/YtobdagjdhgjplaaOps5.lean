/-
  A program logic over the kit's `Calls`. Part 8: bytes and strings, make.
-/
import Derived.Test.YtobdagjdhgjplaaOps4
import Derived.Lib.ConvBytes
import Derived.Laws.BytesArg
import Derived.Laws.MakeOwn
namespace Go.Sn
open Go Go.RowKit
set_option linter.unusedVariables false
set_option linter.unusedSimpArgs false

/-- A string's bytes, as a slice's elements. -/
def bytesC (l : List UInt8) : List (List D) := l.map fun b => [.v (.int .u8 (b.toNat : Int))]
theorem bytesC_flatten (l : List UInt8) : (bytesC l).flatten = l.map fun b => D.v (.int .u8 (b.toNat : Int)) := by
  induction l with
  | nil => rfl
  | cons b l ih => rw [List.map_cons, ← ih]; simp [bytesC]
def numsC (l : List Int) : List (List D) := l.map fun n => [.v (.int .u8 n)]
theorem numsC_flatten (l : List Int) : (numsC l).flatten = l.map fun n => D.v (.int .u8 n) := by
  induction l with
  | nil => rfl
  | cons b l ih => rw [List.map_cons, ← ih]; simp [numsC]

section
variable {P : Program} {W : World} {f : FuncId} {N : Nat} {Q : D → Heap → Prop} {ops : Array Oper} {l : List Oper} {o : Oper} {k : List Item} {env : Env} {H : Heap}

theorem opOk_bytes {ρ : Operand → D} {K : D → Heap → Prop} {st t e : Nat} {x : Operand} {s : ByteArray} (ho : o.op = .convert st t x) (hus : P.underlying st = some .string)
    (hut : P.underlying t = some (.slice e)) (hue : P.underlying e = some (.int .u8)) (hx : ρ x = .v (.string s)) (hK : K (.list (bytesC s.data.toList)) H) : OpOk P W o ρ H K := by
  intro G a w next Qx hI hρ hnext
  have hxv : a.eval x = .string s := by have := hρ x (by simp [ho, Op.operands]); rw [hx] at this; exact this.inv_v
  have hrun := Lib.run_convert_string_bytes (P := P) w st t e s hus hut hue
  have hsz : s.data.toList.length = s.size := rfl
  let cs : List Value := s.data.toList.map fun b => Value.int .u8 b.toNat
  have hle : G.le (G.add w.heap.size 0 cs) := IG.le_add G _ 0 cs fun p _ => hI.gfresh (Nat.le_refl _) p
  have hnew := Lib.bytesWorld_at_new w e s
  have hI1 : Inv W G H (Lib.bytesWorld w e s) := by
    refine ⟨hI.below.trans ⟨rfl, rfl, rfl, by rw [Lib.bytesWorld_size]; omega, fun j hj => Lib.bytesWorld_at_old w e s j (by have := hI.below.size; omega)⟩, fun b o x hx => ⟨?_, (hI.imm b o x hx).2⟩, fun b r hr => ⟨(hI.res b r hr).1, ?_⟩⟩
    · rw [Lib.bytesWorld_old _ _ _ _ (World.block_lt_of_cell? w _ (hI.imm b o x hx).1)]
      exact (hI.imm b o x hx).1
    · exact (hI.res b r hr).2.same (Lib.bytesWorld_at_old w e s b (hI.res b r hr).2.lt)
  have hI2 := hI1.grow (b := w.heap.size) (o := 0) (cs := cs) (fun kk c hc => by
    have hk : kk < s.size := by have := (List.getElem?_eq_some_iff.1 hc).1; simpa [cs] using this
    rw [Nat.zero_add, Lib.bytesWorld_cell w e s kk hk]
    have hk' : kk < s.data.toList.length := hk
    simp only [cs, List.getElem?_map, List.getElem?_eq_getElem hk', Option.map_some, Option.some.injEq] at hc
    rw [← hc]
    simp [List.getD, List.getElem?_eq_getElem hk']) (fun c hc => by simp [cs] at hc; obtain ⟨b, _, rfl⟩ := hc; rfl) (fun p _ => hI.gfresh (Nat.le_refl _) p) (fun r hr => by rw [hI.fresh (Nat.le_refl _)] at hr; cases hr)
  refine wp_value (w' := Lib.bytesWorld w e s) (v := .slice (some ⟨w.heap.size, 0, none⟩) s.size (grownCap w s.size 0 e)) ?_ (hnext _ _ _ _ _ hle hI2 ?_ hK)
  · simp only [execOp, ho, hxv]
    exact execOp_v' hrun
  · refine Rep.mkList (sz := 1) (by simp [bytesC]) (grownCap_ge w s.size 0 e) (by simp [bytesC]) ?_
    rw [bytesC_flatten]
    intro kk d hd
    rw [List.getElem?_map] at hd
    cases hb : s.data.toList[kk]? with
    | none => rw [hb] at hd; cases hd
    | some b =>
      rw [hb] at hd
      cases hd
      exact ⟨.int .u8 b.toNat, IG.add_at G _ 0 cs (by simp only [cs, List.getElem?_map, hb]; rfl), .v _⟩

theorem opOk_string {ρ : Operand → D} {K : D → Heap → Prop} {st t e : Nat} {x : Operand} {ns : List Int} (ho : o.op = .convert st t x) (hus : P.underlying st = some (.slice e))
    (hut : P.underlying t = some .string) (hue : P.underlying e = some (.int .u8)) (hx : (ρ x).elems = some (numsC ns)) (hK : K (.v (.string (strOfNums ns))) H) : OpOk P W o ρ H K := by
  intro G a w next Qx hI hρ hnext
  rcases (hρ x (by simp [ho, Op.operands])).inv_elems hx with ⟨⟨ax, hxv⟩, hnil⟩ | ⟨b, q, c, sz, hxv, hc, hsz, hcells⟩
  · have hns : ns = [] := by cases ns <;> simp [numsC] at hnil ⊢
    subst hns
    refine wp_value (w' := w) (v := .string (strOfNums [])) ?_ (hnext _ _ _ _ _ (.refl G) hI (.v _) hK)
    simp only [execOp, ho, hxv]
    cases ax with
    | none => exact execOp_v' (by rw [run_convert_bytes_nil (P := P) w st e hus hue 0 0 t hut]; rfl)
    | some ax =>
      refine execOp_v' ?_
      have hl : (loadCells ax 0).run P w = .ok (([] : List Int).map (Value.int .u8)).toArray w := by
        simpa using run_loadCells_list (P := P) w ax [] (fun j v hj => by simp at hj)
      rw [run_convert_bytes_string w st t e _ 0 0 hus hue hut, run_bytesToString w _ 0 0 [] hl]
      rfl
  · refine wp_value (w' := w) (v := .string (strOfNums ns)) ?_ (hnext _ _ _ _ _ (.refl G) hI (.v _) hK)
    simp only [execOp, ho, hxv]
    refine execOp_v' (run_convert_bytes_arg (P := P) w st e hus hue b q _ c ns (by simp [numsC]) (fun i hi => ?_) t hut)
    have hi' : i < ns.length := by simpa [numsC] using hi
    rw [numsC_flatten] at hcells
    obtain ⟨v, hv, hr⟩ := hcells i (.v (.int .u8 ns[i])) (by rw [List.getElem?_map, List.getElem?_eq_getElem hi']; rfl)
    rw [(hI.imm _ _ _ hv).1, hr.inv_v]
    simp [List.getD, List.getElem?_eq_getElem hi']

theorem opOk_make_own {ρ : Operand → D} {K : D → Heap → Prop} {t e sz by_ : Nat} {z : List D} {x y : Operand} {k1 k2 : IntKind} {c : Nat} (ho : o.op = .makeSlice t x y)
    (hu : P.underlying t = some (.slice e)) (hsz : szT P e = some sz) (hby : bytesT P e = some by_) (hz : zeroT P e = some z) (hx : ρ x = .v (.int k1 0)) (hy : ρ y = .v (.int k2 (c : Int)))
    (hlen : c * by_ ≤ 140737488355328) (hlen2 : c ≤ maxLen) (hK : ∀ b, H b = none → K (.own b c []) (H.set b (.grow e 0 c sz))) : OpOk P W o ρ H K := by
  intro G a w next Qx hI hρ hnext
  obtain ⟨i, zv, hi, hisz, hiby, hiz, hzv⟩ := infoT hsz hby hz
  have hxv : a.eval x = .int k1 0 := by have := hρ x (by simp [ho, Op.operands]); rw [hx] at this; exact this.inv_v
  have hyv : a.eval y = .int k2 (c : Int) := by have := hρ y (by simp [ho, Op.operands]); rw [hy] at this; exact this.inv_v
  have h2 : by_ * c ≤ 140737488355328 := by rw [Nat.mul_comm]; exact hlen
  have hrun := run_make (P := P) w t e i zv hu hi hiz k1 k2 0 (c : Int) (Int.le_refl _) (by omega) (by rw [hiby, ← Int.natCast_mul]; omega) (by simp only [maxLen] at hlen2; omega)
  refine wp_value (w' := w.alloc (.cells (madeCells zv.cells (c * i.size)) e)) (v := .slice (some ⟨w.heap.size, 0, none⟩) 0 c) ?_
    (hnext _ _ _ _ _ (.refl G) ((hI.alloc _).add (b := w.heap.size) (r := .grow e 0 c sz) hI.below.size ⟨_, heap_alloc_new w _, by rw [size_madeCells, hisz], Nat.zero_le _, hlen2, fun p _ => hI.gfresh (Nat.le_refl _) p⟩) ?_
      (hK _ (hI.fresh (Nat.le_refl _))))
  · simp only [execOp, ho, hxv, hyv]
    exact execOp_v' (by simpa using hrun)
  · exact Rep.mkOwn (sz := sz) rfl (Nat.zero_le _) (by simp) (fun k d h => by simp at h)

theorem madeCells_zero (z : List Value) (hz : z ≠ []) : ∀ n : Nat, (madeCells z.toArray (n * z.length)).toList = (List.replicate n z).flatten := by
  intro n
  have hl : 0 < z.length := List.length_pos_iff.2 hz
  apply List.ext_getElem?
  intro k
  by_cases hk : k < n * z.length
  · have hdiv : k / z.length < n := Nat.div_lt_of_lt_mul (by rw [Nat.mul_comm]; exact hk)
    have hmod : k % z.length < z.length := Nat.mod_lt _ hl
    have h1 : (List.replicate n z).flatten[k]? = z[k % z.length]? := by
      have h := flatten_drop_take (sz := z.length) (List.replicate n z) (k / z.length) (by intro ds hds; rw [List.eq_of_mem_replicate hds]) (by simpa using hdiv)
      have hz' : (List.replicate n z).getD (k / z.length) [] = z := by simp [List.getD, hdiv]
      rw [hz'] at h
      have h' : (((List.replicate n z).flatten.drop (k / z.length * z.length)).take z.length)[k % z.length]? = z[k % z.length]? := by rw [h]
      rw [List.getElem?_take, if_pos hmod, List.getElem?_drop] at h'
      rw [← h']
      congr 1
      rw [Nat.mul_comm]; exact (Nat.div_add_mod k z.length).symm
    rw [h1]
    simp [madeCells, hk, hmod]
  · rw [List.getElem?_eq_none (by simp [madeCells]; omega), List.getElem?_eq_none (by simp; omega)]

/-- A slice whose cells are ours: to be written. -/
theorem opOk_make_cells {ρ : Operand → D} {K : D → Heap → Prop} {t e sz by_ : Nat} {z : List D} {x y : Operand} {k1 k2 : IntKind} {c : Nat} (ho : o.op = .makeSlice t x y)
    (hu : P.underlying t = some (.slice e)) (hsz : szT P e = some sz) (hby : bytesT P e = some by_) (hz : zeroT P e = some z) (hzl : z.length = sz) (hpos : 0 < sz) (hx : ρ x = .v (.int k1 (c : Int))) (hy : ρ y = .v (.int k2 (c : Int)))
    (hlen : c * by_ ≤ 140737488355328) (hlen2 : c ≤ maxLen) (hK : ∀ b, H b = none → K (.v (.slice (some ⟨b, 0, none⟩) c c)) (H.set b (.cells (List.replicate c z).flatten e))) : OpOk P W o ρ H K := by
  intro G a w next Qx hI hρ hnext
  obtain ⟨i, zv, hi, hisz, hiby, hiz, hzv⟩ := infoT hsz hby hz
  have hxv : a.eval x = .int k1 (c : Int) := by have := hρ x (by simp [ho, Op.operands]); rw [hx] at this; exact this.inv_v
  have hyv : a.eval y = .int k2 (c : Int) := by have := hρ y (by simp [ho, Op.operands]); rw [hy] at this; exact this.inv_v
  have h2 : by_ * c ≤ 140737488355328 := by rw [Nat.mul_comm]; exact hlen
  have hrun := run_make (P := P) w t e i zv hu hi hiz k1 k2 (c : Int) (c : Int) (by omega) (Int.le_refl _) (by rw [hiby, ← Int.natCast_mul]; omega) (by simp only [maxLen] at hlen2; omega)
  obtain ⟨zx, hzx, hzr, hz1⟩ := zeroT_run (w := w) (G := G) hz
  have hzz : zx = zv := by
    simp [zeroValue, typeInfo, hi, hiz] at hzx
    exact hzx.symm
  subst hzz
  have hne : zx.cells.toList ≠ [] := by
    intro e
    have := hzr.1
    rw [e, hzl] at this
    simp at this
    omega
  have hcells : (madeCells zx.cells (c * i.size)).toList = (List.replicate c zx.cells.toList).flatten := by
    have := madeCells_zero zx.cells.toList hne c
    have hl : zx.cells.toList.length = i.size := by rw [hzr.1, hzl, hisz]
    rw [hl] at this
    simpa using this
  have hreps : ∀ n : Nat, Reps G (List.replicate n zx.cells.toList).flatten (List.replicate n z).flatten := by
    intro n
    induction n with
    | zero => exact Reps.nil G
    | succ n ih => rw [List.replicate_succ, List.replicate_succ, List.flatten_cons, List.flatten_cons]; exact hzr.append ih
  have hI' := hI.allocCells (List.replicate c zx.cells.toList).flatten (List.replicate c z).flatten e (hreps c) (fun u hu => by
    simp only [List.mem_flatten] at hu
    obtain ⟨l, hl, hul⟩ := hu
    rw [List.eq_of_mem_replicate hl] at hul
    exact hz1 u hul)
  have harr : madeCells zx.cells (c * i.size) = (List.replicate c zx.cells.toList).flatten.toArray := by rw [← hcells]
  simp only [Int.toNat_natCast] at hrun
  rw [harr] at hrun
  refine wp_value ?_ (hnext (.slice (some ⟨w.heap.size, 0, none⟩) c c) _ _ _ _ (.refl G) hI' (.v _) (hK _ (hI.fresh (Nat.le_refl _))))
  simp only [execOp, ho, hxv, hyv]
  exact execOp_v' (by simpa using hrun)

section lits
variable {dst : Option Tmp} {ty : TypeId} {pos : String} {aft : Array Edge}

theorem runO_buildSlice {t e n sz : Nat} {parts : Array (Nat × Operand)} {z : List D} (hu : P.underlying t = some (.slice e))
    (hsz : szT P e = some sz) (hz : zeroT P e = some z) (hzl : z.length = sz) (hn : parts.toList.length = n) (hfull : fullParts (partsA (ev env) parts.toList) 0 = true)
    (hs : (partsA (ev env) parts.toList).all (fun x => x.2.cells.length == sz && x.2.stor) = true) (hle : n * sz ≤ 16777216)
    (h : RunO P W f N Q ops l k (put N env dst (if n = 0 then .nil else .list ((partsA (ev env) parts.toList).map fun x => x.2.cells.map D.flat))) H) :
    RunO P W f N Q ops (⟨dst, .buildSlice t n parts, ty, pos, aft, none⟩ :: l) k env H :=
  runO_op rfl (opOk_buildSlice rfl hu hsz hz hzl hn hfull (by simpa using hs) hle h)

theorem runO_buildSliceG {t e n sz : Nat} {parts : Array (Nat × Operand)} {z : List D} {j : Nat} {g : Bool} {cs : List Bool} (ht : guardA ops env j g = some cs) (hu : P.underlying t = some (.slice e))
    (hsz : szT P e = some sz) (hz : zeroT P e = some z) (hzl : z.length = sz) (hn : parts.toList.length = n) (hfull : fullParts (partsA (fun x => stripL cs (ev env x)) parts.toList) 0 = true)
    (hs : (partsA (fun x => stripL cs (ev env x)) parts.toList).all (fun x => x.2.cells.length == sz && x.2.stor) = true) (hle : n * sz ≤ 16777216)
    (h : RunO P W f N Q ops l k (put N env dst (wrapL cs (if n = 0 then .nil else .list ((partsA (fun x => stripL cs (ev env x)) parts.toList).map fun x => x.2.cells.map D.flat)))) H) :
    RunO P W f N Q ops (⟨dst, .buildSlice t n parts, ty, pos, aft, some (j, g)⟩ :: l) k env H :=
  runO_guarded rfl ht (fun _ => opOk_buildSlice rfl hu hsz hz hzl hn hfull (by simpa using hs) hle ⟨rfl, rfl⟩) h

theorem runO_append_own {s x : Operand} {t e sz by_ b cap : Nat} {z : List D} {xs ys : List (List D)}
    (hu : P.underlying t = some (.slice e)) (hsz : szT P e = some sz) (hby : bytesT P e = some by_) (hz : zeroT P e = some z) (hzl : z.length = sz) (hs : ev env s = .own b cap xs) (hx : (ev env x).elems = some ys)
    (hb : H b = some (.grow e xs.length cap sz)) (hsx : ∀ ds ∈ xs, ds.length = sz) (hsy : ∀ ds ∈ ys, ds.length = sz) (hlen : (xs.length + ys.length) * by_ ≤ 140737488355328) (hlen2 : xs.length + ys.length ≤ maxLen)
    (h : ∀ b' cap', (H.del b) b' = none → RunO P W f N Q ops l k (put N env dst (.own b' cap' (xs ++ ys))) ((H.del b).set b' (.grow e (xs.length + ys.length) cap' sz))) :
    RunO P W f N Q ops (⟨dst, .call ⟨.builtin .append, #[s, x], #[t, t]⟩, ty, pos, aft, none⟩ :: l) k env H :=
  runO_op rfl (opOk_append_own rfl hu hsz hby hz hzl hs hx hb hsx hsy hlen hlen2 h)

theorem runO_append_nil {s x : Operand} {t e sz by_ : Nat} {z : List D} {ys : List (List D)}
    (hu : P.underlying t = some (.slice e)) (hsz : szT P e = some sz) (hby : bytesT P e = some by_) (hz : zeroT P e = some z) (hzl : z.length = sz) (hs : ev env s = .nil) (hx : (ev env x).elems = some ys)
    (hsy : ∀ ds ∈ ys, ds.length = sz) (hlen : ys.length * by_ ≤ 140737488355328) (hlen2 : ys.length ≤ maxLen)
    (h0 : ys = [] → RunO P W f N Q ops l k (put N env dst .nil) H) (h : ys ≠ [] → ∀ b cap, H b = none → RunO P W f N Q ops l k (put N env dst (.own b cap ys)) (H.set b (.grow e ys.length cap sz))) :
    RunO P W f N Q ops (⟨dst, .call ⟨.builtin .append, #[s, x], #[t, t]⟩, ty, pos, aft, none⟩ :: l) k env H :=
  runO_op rfl (opOk_append_nil rfl hu hsz hby hz hzl hs hx hsy hlen hlen2 h0 h)

/-- A list that a variable collects: nothing yet, or a block with room that is ours. -/
inductive Coll (H0 : Heap) (e sz : Nat) (xs : List (List D)) : D → Heap → Prop
  | none (h : xs = []) : Coll H0 e sz xs .nil H0
  | some (b cap : Nat) (hb : H0 b = .none) : Coll H0 e sz xs (.own b cap xs) (H0.set b (.grow e xs.length cap sz))

theorem Coll.flat {H0 H : Heap} {e sz : Nat} {xs : List (List D)} {d : D} (h : Coll H0 e sz xs d H) : d.flat = .list xs := by
  cases h with
  | none h => subst h; rfl
  | some b cap hb => rfl
theorem Coll.sub {H0 H : Heap} {e sz : Nat} {xs : List (List D)} {d : D} (h : Coll H0 e sz xs d H) : H0.sub H := by
  cases h with
  | none h => exact Heap.sub_refl _
  | some b cap hb => exact Heap.sub_set (Heap.sub_refl _) hb
theorem Coll.elems {H0 H : Heap} {e sz : Nat} {xs : List (List D)} {d : D} (h : Coll H0 e sz xs d H) : d.elems = .some xs := by
  cases h with
  | none h => subst h; rfl
  | some b cap hb => rfl

/-- append to such a list: it collects more. -/
theorem runO_coll {s x : Operand} {t e sz by_ : Nat} {z : List D} {H0 : Heap} {xs ys : List (List D)}
    (hu : P.underlying t = some (.slice e)) (hsz : szT P e = some sz) (hby : bytesT P e = some by_) (hz : zeroT P e = some z) (hzl : z.length = sz) (hc : Coll H0 e sz xs (ev env s) H) (hx : (ev env x).elems = some ys)
    (hsx : ∀ ds ∈ xs, ds.length = sz) (hsy : ∀ ds ∈ ys, ds.length = sz) (hlen : (xs.length + ys.length) * by_ ≤ 140737488355328) (hlen2 : xs.length + ys.length ≤ maxLen)
    (h : ∀ d H', Coll H0 e sz (xs ++ ys) d H' → RunO P W f N Q ops l k (put N env dst d) H') :
    RunO P W f N Q ops (⟨dst, .call ⟨.builtin .append, #[s, x], #[t, t]⟩, ty, pos, aft, none⟩ :: l) k env H := by
  generalize hs : ev env s = d at hc
  cases hc with
  | none h0 =>
    subst h0
    simp only [List.length_nil, Nat.zero_add] at hlen hlen2
    exact runO_append_nil hu hsz hby hz hzl hs hx hsy hlen hlen2 (fun e => h _ _ (.none (by simp [e]))) (fun _ b cap hb => h _ _ (by simpa using Coll.some (xs := ys) b cap hb))
  | some b cap hb =>
    have hdel : (H0.set b (.grow e xs.length cap sz)).del b = H0 := by
      funext c
      simp only [Heap.del, Heap.set]
      split
      · rename_i e; subst e; exact hb.symm
      · rfl
    refine runO_append_own hu hsz hby hz hzl hs hx (by simp [Heap.set]) hsx hsy hlen hlen2 fun b' cap' hb' => ?_
    rw [hdel] at hb' ⊢
    exact h _ _ (by simpa using Coll.some (xs := xs ++ ys) b' cap' hb')

theorem runO_bytes {st t e : Nat} {x : Operand} {s : ByteArray} (hus : P.underlying st = some .string)
    (hut : P.underlying t = some (.slice e)) (hue : P.underlying e = some (.int .u8)) (hx : ev env x = .v (.string s)) (h : RunO P W f N Q ops l k (put N env dst (.list (bytesC s.data.toList))) H) :
    RunO P W f N Q ops (⟨dst, .convert st t x, ty, pos, aft, none⟩ :: l) k env H := runO_op rfl (opOk_bytes rfl hus hut hue hx h)

theorem runO_string {st t e : Nat} {x : Operand} {ns : List Int} (hus : P.underlying st = some (.slice e))
    (hut : P.underlying t = some .string) (hue : P.underlying e = some (.int .u8)) (hx : (ev env x).elems = some (numsC ns)) (h : RunO P W f N Q ops l k (put N env dst (.v (.string (strOfNums ns)))) H) :
    RunO P W f N Q ops (⟨dst, .convert st t x, ty, pos, aft, none⟩ :: l) k env H := runO_op rfl (opOk_string rfl hus hut hue hx h)

theorem runO_make_own {t e sz by_ : Nat} {z : List D} {x y : Operand} {k1 k2 : IntKind} {c : Nat}
    (hu : P.underlying t = some (.slice e)) (hsz : szT P e = some sz) (hby : bytesT P e = some by_) (hz : zeroT P e = some z) (hx : ev env x = .v (.int k1 0)) (hy : ev env y = .v (.int k2 (c : Int)))
    (hlen : c * by_ ≤ 140737488355328) (hlen2 : c ≤ maxLen) (h : ∀ b, H b = none → RunO P W f N Q ops l k (put N env dst (.own b c [])) (H.set b (.grow e 0 c sz))) :
    RunO P W f N Q ops (⟨dst, .makeSlice t x y, ty, pos, aft, none⟩ :: l) k env H := runO_op rfl (opOk_make_own rfl hu hsz hby hz hx hy hlen hlen2 h)

theorem runO_make_cells {t e sz by_ : Nat} {z : List D} {x y : Operand} {k1 k2 : IntKind} {c : Nat}
    (hu : P.underlying t = some (.slice e)) (hsz : szT P e = some sz) (hby : bytesT P e = some by_) (hz : zeroT P e = some z) (hzl : z.length = sz) (hpos : 0 < sz) (hx : ev env x = .v (.int k1 (c : Int))) (hy : ev env y = .v (.int k2 (c : Int)))
    (hlen : c * by_ ≤ 140737488355328) (hlen2 : c ≤ maxLen) (h : ∀ b, H b = none → RunO P W f N Q ops l k (put N env dst (.v (.slice (some ⟨b, 0, none⟩) c c))) (H.set b (.cells (List.replicate c z).flatten e))) :
    RunO P W f N Q ops (⟨dst, .makeSlice t x y, ty, pos, aft, none⟩ :: l) k env H := runO_op rfl (opOk_make_cells rfl hu hsz hby hz hzl hpos hx hy hlen hlen2 h)
end lits
end
attribute [go_sem] fullParts
end Go.Sn
