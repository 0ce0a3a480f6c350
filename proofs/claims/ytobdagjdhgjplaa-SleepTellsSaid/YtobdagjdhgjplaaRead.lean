/-
  How an argument that is read as data stands as an abstract value, in the world as it is at the call.
-/
import Derived.Test.YtobdagjdhgjplaaWords
import Derived.OpenShut
import Derived.ShutString
import Derived.Carry
import Derived.SizedLaws
import Derived.DataReads
namespace Go.Sn
open Go Go.RowKit Go.ChangeShapes
set_option linter.unusedVariables false
set_option linter.unusedSimpArgs false

/-- The cells of the world as it is at the call: none of them turns. -/
def IG.of (W : World) : IG := fun b o => (W.cell? ⟨b, o, none⟩).filter (·.oneCell')

theorem IG.of_at {W : World} {b o : Nat} {x : Value} (h : W.cell? ⟨b, o, none⟩ = some x) (h1 : x.oneCell' = true) : IG.of W b o = some x := by
  simp [IG.of, h, h1]

theorem Inv.start (W : World) : Inv W (IG.of W) (fun _ => none) W := by
  refine ⟨Below.refl _ _, fun b o x h => ?_, fun b r h => by cases h⟩
  simp only [IG.of, Option.filter_eq_some_iff] at h
  exact h

/-- What a type's data read as. -/
structure Reads (P : Program) (W : World) (t : TypeId) (Pr : List D → Prop) : Prop where
  out : ∀ {H : Type} (enc : TypeId × Value → H) (fuel : Nat) (cs : List Value) (x : DataW H × List MemPlace), DataW.trod enc P W 0 (fun _ => true) true fuel t cs = some x →
    (∀ n ∈ x.1.weights P t, n ≤ reachBytes) → cs.length = P.cellsOf t → ∃ ds, Reps (IG.of W) cs ds ∧ (∀ c ∈ cs, c.oneCell' = true) ∧ Pr ds

section
variable {P : Program} {W : World} {t e : TypeId}

theorem Reads.mono {Pr Pr' : List D → Prop} (h : Reads P W t Pr) (hp : ∀ ds, Pr ds → Pr' ds) : Reads P W t Pr' :=
  ⟨fun enc fuel cs x hx hw hl => let ⟨ds, h1, h2, h3⟩ := h.out enc fuel cs x hx hw hl; ⟨ds, h1, h2, hp ds h3⟩⟩

theorem reads_bool (ht : P.underlying t = some .bool) : Reads P W t fun ds => ∃ b, ds = [.v (.bool b)] := by
  constructor
  intro H enc fuel cs x hx hw hl
  obtain ⟨b, rfl, rfl⟩ := DataW.trod_bool ht hx
  exact ⟨[.v (.bool b)], Reps.self _ [.bool b], by simp [Value.oneCell'], b, rfl⟩

theorem reads_int {k : IntKind} (ht : P.underlying t = some (.int k)) : Reads P W t fun ds => ∃ n, ds = [.v (.int k n)] ∧ (Lit.int k n).wf = true := by
  constructor
  intro H enc fuel cs x hx hw hl
  obtain ⟨n, rfl, rfl, hn⟩ := DataW.trod_int ht hx
  exact ⟨[.v (.int k n)], Reps.self _ [.int k n], by simp [Value.oneCell'], n, rfl, hn⟩

theorem reads_string (ht : P.underlying t = some .string) : Reads P W t fun ds => ∃ s : ByteArray, ds = [.v (.string s)] ∧ s.size ≤ 140737488351232 := by
  constructor
  intro H enc fuel cs x hx hw hl
  obtain ⟨s, rfl, rfl, hn⟩ := DataW.trod_string ht hx
  refine ⟨[.v (.string s)], Reps.self _ [.string s], by simp [Value.oneCell'], s, rfl, ?_⟩
  have := hw s.data.toList.length (by simp [DataW.weights])
  simpa [reachBytes] using this

theorem cells_some {a : Addr} {n : Nat} {cs : List Value} (h : W.cells? 0 a n = some cs) : cs.length = n ∧ ∀ k c, cs[k]? = some c → W.cell? (a.add k) = some c := by
  simp only [World.cells?, Nat.zero_le, if_true] at h
  refine ⟨by simpa using mapM_some_length h, fun k c hk => ?_⟩
  have hkl : k < n := by
    have := (List.getElem?_eq_some_iff.1 hk).1
    have h2 := mapM_some_length h
    simp at h2
    omega
  have := mapM_some_get h k k (by simp [hkl])
  rw [this, hk]

theorem weightsAll_mem {H : Type} {P : Program} {e : TypeId} : ∀ (xs : List (DataW H)) (x : DataW H), x ∈ xs → ∀ n ∈ x.weights P e, n ∈ DataW.weightsAll P e xs
  | [], x, h, _, _ => by cases h
  | y :: ys, x, h, n, hn => by
    simp only [DataW.weightsAll, List.mem_append]
    rcases List.mem_cons.1 h with rfl | h
    · exact .inl hn
    · exact .inr (weightsAll_mem ys x h n hn)

theorem elems_choose {Pr : List D → Prop} : ∀ (n : Nat) (f : Nat → List Value), (∀ i, i < n → ∃ ds, Reps (IG.of W) (f i) ds ∧ Pr ds) →
    ∃ xs : List (List D), xs.length = n ∧ (∀ i, i < n → Reps (IG.of W) (f i) (xs.getD i [])) ∧ ∀ x ∈ xs, Pr x
  | 0, f, _ => ⟨[], rfl, fun i h => by omega, fun x h => by cases h⟩
  | n + 1, f, h => by
    obtain ⟨d, h1, h2⟩ := h 0 (by omega)
    obtain ⟨xs, h3, h4, h5⟩ := elems_choose n (fun i => f (i + 1)) (fun i hi => h (i + 1) (by omega))
    refine ⟨d :: xs, by simp [h3], fun i hi => ?_, fun x hx => ?_⟩
    · cases i with
      | zero => simpa using h1
      | succ i => simpa using h4 i (by omega)
    · rcases List.mem_cons.1 hx with rfl | hx
      · exact h2
      · exact h5 x hx

theorem reads_slice {Pr : List D → Prop} {sz by_ : Nat} (ht : P.underlying t = some (.slice e)) (hsz : P.cellsOf e = sz) (hby : P.bytesOf e = by_) (hpos : 0 < sz) (h : Reads P W e Pr) :
    Reads P W t fun ds => ∃ xs : List (List D), ds = [.list xs] ∧ (∀ x ∈ xs, Pr x) ∧ (∀ x ∈ xs, x.length = sz) ∧ xs.length ≤ maxLen ∧ xs.length * by_ ≤ 140737488351232 := by
  subst hsz
  subst hby
  constructor
  intro H enc fuel cs x hx hw hl
  rcases DataW.trod_slice ht hx with ⟨rfl, rfl⟩ | ⟨a, len, cap, elems, rest, n, rfl, rfl, rfl, h0, h1, h2, h3, h4, h5, _⟩
  · exact ⟨[.list []], Reps.cons .listNil (Reps.nil _), by simp [Value.oneCell'], [], rfl, by simp, by simp, by simp, by simp⟩
  · have hbytes : len * P.bytesOf e ≤ 140737488351232 := by
      have := hw ((elems.length + rest.length) * P.bytesOf e) (by simp [DataW.weights, ht])
      refine Nat.le_trans (Nat.mul_le_mul_right _ ?_) (Nat.le_trans this (by simp [reachBytes]))
      omega
    obtain ⟨h5, h6⟩ := h5 rfl
    by_cases hcap : cap = 0
    · subst hcap
      obtain rfl : len = 0 := by omega
      exact ⟨[.list []], Reps.cons (.listE _) (Reps.nil _), by simp [Value.oneCell'], [], rfl, by simp, by simp, by simp, by simp⟩
    · have hspot : a.spot = none := by
        have hc : ∃ cs', W.cells? 0 (a.add 0) (P.cellsOf e) = some cs' := by
          by_cases hlen : len = 0
          · have := h6 0 (by omega)
            rw [List.getElem?_eq_getElem (by omega : 0 < rest.length), Option.bind_eq_some_iff] at this
            obtain ⟨cs', h7, _⟩ := this
            exact ⟨cs', by simpa [hlen] using h7⟩
          · have := h4 0 (by omega)
            rw [List.getElem?_eq_getElem (by omega : 0 < elems.length), Option.bind_eq_some_iff] at this
            obtain ⟨cs', h7, _⟩ := this
            exact ⟨cs', by simpa using h7⟩
        obtain ⟨cs', hc⟩ := hc
        obtain ⟨hc1, hc2⟩ := cells_some hc
        have := hc2 0 cs'[0] (List.getElem?_eq_getElem (by omega))
        simpa [Addr.add] using World.cell?_spot this
      obtain ⟨b, o, spot⟩ := a
      simp only at hspot
      subst hspot
      have hg : ∀ i, i < len → ∃ ds, Reps (IG.of W) ((List.range (P.cellsOf e)).map fun k => (IG.of W b (o + i * P.cellsOf e + k)).getD default) ds ∧
          (Pr ds ∧ ds.length = P.cellsOf e ∧ ∀ k, k < P.cellsOf e → ∃ c, IG.of W b (o + i * P.cellsOf e + k) = some c) := by
        intro i hi
        have h7 := h4 i hi
        rw [List.getElem?_eq_getElem (by omega : i < elems.length), Option.bind_eq_some_iff] at h7
        obtain ⟨cs', h7, h8⟩ := h7
        obtain ⟨hl', hcell⟩ := cells_some h7
        have hwe : ∀ m ∈ (elems[i]'(by omega)).1.weights P e, m ≤ reachBytes := fun m hm => hw m (by
          simp only [DataW.weights, ht, List.mem_cons, List.mem_append]
          exact .inr (.inl (weightsAll_mem _ _ (List.mem_map_of_mem (List.getElem_mem _)) m hm)))
        obtain ⟨ds, hr, hone, hp⟩ := h.out enc n cs' _ h8 hwe hl'
        have hof : ∀ k (hk : k < cs'.length), IG.of W b (o + i * P.cellsOf e + k) = some cs'[k] := fun k hk => by
          have := hcell k _ (List.getElem?_eq_getElem hk)
          rw [Addr.add_lit, Addr.add_lit] at this
          exact IG.of_at this (hone _ (List.getElem_mem _))
        have hcs : ((List.range (P.cellsOf e)).map fun k => (IG.of W b (o + i * P.cellsOf e + k)).getD default) = cs' := by
          apply List.ext_getElem (by simp [hl'])
          intro k h1 h2
          simp [hof k h2]
        refine ⟨ds, by rw [hcs]; exact hr, hp, by rw [← hr.1, hl'], fun k hk => ⟨_, hof k (by omega)⟩⟩
      obtain ⟨xs, hxl, hxr, hxp⟩ := elems_choose (W := W) (Pr := fun ds => Pr ds ∧ ds.length = P.cellsOf e) len (fun i => (List.range (P.cellsOf e)).map fun k => (IG.of W b (o + i * P.cellsOf e + k)).getD default) (fun i hi => let ⟨ds, k1, k2, k3, _⟩ := hg i hi; ⟨ds, k1, k2, k3⟩)
      have hcells : CellsAt (IG.of W) b o xs.flatten := by
        intro k d hd
        have hflen : xs.flatten.length = len * P.cellsOf e := by rw [← hxl]; exact elems_all fun x hx => (hxp x hx).2
        have hk : k < len * P.cellsOf e := by rw [← hflen]; exact (List.getElem?_eq_some_iff.1 hd).1
        have hdiv : k / P.cellsOf e < len := Nat.div_lt_of_lt_mul (by rw [Nat.mul_comm]; exact hk)
        have hmod : k % P.cellsOf e < P.cellsOf e := Nat.mod_lt _ hpos
        have hkk : k / P.cellsOf e * P.cellsOf e + k % P.cellsOf e = k := by rw [Nat.mul_comm]; exact Nat.div_add_mod k _
        have hel := flatten_drop_take xs (k / P.cellsOf e) (fun x hx => (hxp x hx).2) (by omega)
        have hd' : (xs.getD (k / P.cellsOf e) [])[k % P.cellsOf e]? = some d := by
          rw [← hel, List.getElem?_take, if_pos hmod, List.getElem?_drop, hkk, hd]
        have hmem : xs.getD (k / P.cellsOf e) [] ∈ xs := by
          simp [List.getD, List.getElem?_eq_getElem (by omega : k / P.cellsOf e < xs.length)]
        obtain ⟨c, hc⟩ := hxr (k / P.cellsOf e) hdiv |>.get hd'
        obtain ⟨c0, hc0⟩ := (hg (k / P.cellsOf e) hdiv).choose_spec.2.2.2 (k % P.cellsOf e) hmod
        refine ⟨c, ?_, hc.2⟩
        have := hc.1
        simp [hmod] at this
        rw [Nat.add_assoc, hkk] at this hc0
        rw [hc0] at this ⊢
        simpa using this
      refine ⟨[.list xs], Reps.cons (Rep.mkList hxl h1 (fun x hx => (hxp x hx).2) hcells) (Reps.nil _), by simp [Value.oneCell'], xs, rfl, fun x hx => (hxp x hx).1, fun x hx => (hxp x hx).2, by omega, by rw [hxl]; exact hbytes⟩

theorem weightsEach_mem {H : Type} {P : Program} : ∀ (ts : List TypeId) (xs : List (DataW H)) (i : Nat) (t : TypeId) (x : DataW H), ts[i]? = some t → xs[i]? = some x → ∀ n ∈ x.weights P t, n ∈ DataW.weightsEach P ts xs
  | [], xs, i, t, x, h, _, _, _ => by simp at h
  | t' :: ts, [], i, t, x, _, h, _, _ => by simp at h
  | t' :: ts, y :: ys, 0, t, x, h1, h2, n, hn => by
    simp at h1 h2; subst h1; subst h2
    simp only [DataW.weightsEach, List.mem_append]
    exact .inl hn
  | t' :: ts, y :: ys, i + 1, t, x, h1, h2, n, hn => by
    simp only [DataW.weightsEach, List.mem_append]
    exact .inr (weightsEach_mem ts ys i t x (by simpa using h1) (by simpa using h2) n hn)

/-- The fields of a struct, from the cell `o` on. -/
structure ReadsF (P : Program) (W : World) (o : Nat) (fs : List Field) (n : Nat) (Pr : List D → Prop) : Prop where
  out : ∀ {H : Type} (enc : TypeId × Value → H) (fuel : Nat) (cs : List Value) (xs : List (DataW H × List MemPlace)), xs.length = fs.length →
    (∀ (i : Nat) (f : Field), fs[i]? = some f → DataW.trod enc P W 0 (fun _ => true) true fuel f.type ((cs.drop f.offset).take (P.cellsOf f.type)) = xs[i]?) →
    (∀ (i : Nat) (f : Field) (x : DataW H × List MemPlace), fs[i]? = some f → xs[i]? = some x → ∀ n ∈ x.1.weights P f.type, n ≤ reachBytes) →
    cs.length = n → ∃ ds, Reps (IG.of W) (cs.drop o) ds ∧ (∀ c ∈ cs.drop o, c.oneCell' = true) ∧ Pr ds

theorem readsF_nil {n : Nat} : ReadsF P W n [] n fun ds => ds = [] := by
  constructor
  intro H enc fuel cs xs _ _ _ hl
  refine ⟨[], ?_, ?_, rfl⟩
  · rw [List.drop_eq_nil_of_le (by omega)]; exact Reps.nil _
  · rw [List.drop_eq_nil_of_le (by omega)]; simp

theorem readsF_cons {o sz n : Nat} {f : Field} {fs : List Field} {P1 P2 : List D → Prop} (ho : f.offset = o) (hsz : P.cellsOf f.type = sz) (hn : o + sz ≤ n) (h1 : Reads P W f.type P1) (h2 : ReadsF P W (o + sz) fs n P2) :
    ReadsF P W o (f :: fs) n fun ds => ∃ d1 d2, ds = d1 ++ d2 ∧ P1 d1 ∧ P2 d2 := by
  subst hsz
  subst ho
  constructor
  intro H enc fuel cs xs hxl hx hw hl
  cases xs with
  | nil => simp at hxl
  | cons x xs =>
    obtain ⟨d1, k1, k2, k3⟩ := h1.out enc fuel _ x (hx 0 f rfl) (hw 0 f x rfl rfl) (by simp; omega)
    obtain ⟨d2, k4, k5, k6⟩ := h2.out enc fuel cs xs (by simpa using hxl) (fun i g hg => by simpa using hx (i + 1) g (by simpa using hg)) (fun i g y hg hy => hw (i + 1) g y (by simpa using hg) (by simpa using hy)) hl
    have hcs : cs.drop f.offset = (cs.drop f.offset).take (P.cellsOf f.type) ++ cs.drop (f.offset + P.cellsOf f.type) := by
      rw [← List.drop_drop, List.take_append_drop]
    refine ⟨d1 ++ d2, by rw [hcs]; exact k1.append k4, ?_, d1, d2, rfl, k3, k6⟩
    rw [hcs]
    intro c hc
    rcases List.mem_append.1 hc with hc | hc
    · exact k2 c hc
    · exact k5 c hc

theorem reads_struct {fs : Array Field} {fl : List Field} {n : Nat} {Pr : List D → Prop} (ht : P.underlying t = some (.struct fs)) (hfl : fs.toList = fl) (hn : P.cellsOf t = n) (h : ReadsF P W 0 fl n Pr) : Reads P W t Pr := by
  subst hfl
  constructor
  intro H enc fuel cs x hx hw hl
  obtain ⟨xs, m, rfl, rfl, hcl, hxl, hall⟩ := DataW.trod_struct ht hx
  obtain ⟨ds, h1, h2, h3⟩ := h.out enc m cs xs (by simpa using hxl) (fun i f hf => hall i f (by simpa using hf)) (fun i f x hf hx n hn => hw n (by
    simp only [DataW.weights, ht]
    exact weightsEach_mem _ _ i f.type x.1 (by rw [List.getElem?_map, hf]; rfl) (by rw [List.getElem?_map, hx]; rfl) n hn)) (by omega)
  exact ⟨ds, by simpa using h1, by simpa using h2, h3⟩

/-- An argument of a type of one cell. -/
theorem reads_arg1 {H : Type} {enc : TypeId × Value → H} {v : Value} {d : DataW H} {p : List MemPlace} {Pr : List D → Prop} (h : Reads P W t Pr) (hv : v.cells = #[v]) (hone : P.cellsOf t = 1)
    (ht : DataW.Trod enc P W 0 (fun _ => true) true t v d p) (hw : ∀ n ∈ d.weights P t, n ≤ reachBytes) : ∃ a, Rep (IG.of W) v a ∧ Pr [a] := by
  obtain ⟨fuel, ht⟩ := ht
  rw [hv] at ht
  obtain ⟨ds, h1, h2, h3⟩ := h.out enc fuel _ _ ht hw (by simp [hone])
  match ds, h1, h3 with
  | [a], h1, h3 => exact ⟨a, h1.2 0 a v rfl rfl, h3⟩
  | [], h1, _ => exact absurd h1.1 (by simp)
  | _ :: _ :: _, h1, _ => exact absurd h1.1 (by simp)

/-- An argument that is a struct. -/
theorem reads_argS {H : Type} {enc : TypeId × Value → H} {cs : Array Value} {d : DataW H} {p : List MemPlace} {Pr : List D → Prop} (h : Reads P W t Pr) (hsz : cs.size = P.cellsOf t)
    (ht : DataW.Trod enc P W 0 (fun _ => true) true t (.agg cs) d p) (hw : ∀ n ∈ d.weights P t, n ≤ reachBytes) : ∃ ds, Rep (IG.of W) (.agg cs) (.agg ds) ∧ Pr ds := by
  obtain ⟨fuel, ht⟩ := ht
  obtain ⟨ds, h1, h2, h3⟩ := h.out enc fuel _ _ ht hw (by simpa [Value.cells] using hsz)
  exact ⟨ds, by simpa [Value.cells] using Rep.mkAgg h1, h3⟩

theorem okWide_structS {fs : Array Field} {v : Value} {base : Nat} (ht : P.underlying t = some (.struct fs)) (h : Value.okWide P W .any base t v) : ∃ cs, v = .agg cs ∧ cs.size = P.cellsOf t := by
  simp only [Value.okWide, ht] at h
  obtain ⟨cs, h1, h2, _⟩ := h
  exact ⟨cs, h1, h2⟩

theorem okWide_one {v : Value} {base : Nat} (ht : (∃ k, P.underlying t = some (.int k)) ∨ P.underlying t = some .bool ∨ P.underlying t = some .string ∨ ∃ e, P.underlying t = some (.slice e))
    (h : Value.okWide P W .any base t v) : v.cells = #[v] := by
  rcases ht with ⟨k, ht⟩ | ht | ht | ⟨e, ht⟩ <;> simp only [Value.okWide, ht, Cell.okWide, Cell.ok] at h <;> cases v <;> simp_all [Value.cells]

theorem weights_each {H : Type} {ts : List TypeId} {xs : List (DataW H)} (h : (DataW.weightsEach P ts xs).all (· ≤ reachBytes) = true) {i : Nat} {t : TypeId} {x : DataW H} (ht : ts[i]? = some t) (hx : xs[i]? = some x) :
    ∀ n ∈ x.weights P t, n ≤ reachBytes := fun n hn => by
  have := List.all_eq_true.1 h n (weightsEach_mem ts xs i t x ht hx n hn)
  simpa using this

/-- What a law's proof gives, as the row asks for it. -/
theorem CallA.law {f : FuncId} {vs : List Value} {ds : List D} (h : CallA P W f ds (fun _ => none) fun r _ => r = .v (.bool true)) (hr : Reps (IG.of W) vs ds) :
    Calls P f vs.toArray W fun e w' => e = .returned (.bool true) ∧ Below W.heap.size W w' := by
  refine (h _ vs W (Inv.start W) hr).mono ?_
  rintro e w' ⟨G', v, d, H', rfl, _, hI, hR, rfl⟩
  cases hR.inv_v
  exact ⟨rfl, hI.below⟩
end
end Go.Sn
