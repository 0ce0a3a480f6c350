/-
  A program logic over the kit's `Calls`. Part 5: runs of code.
-/
import Derived.Test.YtobdagjdhgjplaaOps3
namespace Go.Sn
open Go Go.RowKit
set_option linter.unusedVariables false
set_option linter.unusedSimpArgs false

abbrev Env := Nat → D

def upd (env : Env) (k : Nat) (d : D) : Env := fun j => if j = k then d else env j
theorem upd_at (env : Env) (k j : Nat) (d : D) : upd env k d j = if j = k then d else env j := rfl

/-- What an operation leaves in its slot; `N`: how many slots there are. -/
def put (N : Nat) (env : Env) : Option Tmp → D → Env
  | none, _ => env
  | some k, d => if k < N then upd env k d else env
theorem put_none (N : Nat) (env : Env) (d : D) : put N env none d = env := rfl
theorem put_some (N : Nat) (env : Env) (k : Nat) (d : D) : put N env (some k) d = if k < N then upd env k d else env := rfl

def RepEnv (G : IG) (a : Act) (env : Env) : Prop := ∀ k, Rep G (a.tmps.getD k undef) (env k)

theorem RepEnv.mono {G G' : IG} {a : Act} {env : Env} (h : RepEnv G a env) (hG : G.le G') : RepEnv G' a env := fun k => (h k).mono hG

theorem RepEnv.ev {G : IG} {a : Act} {env : Env} (h : RepEnv G a env) (x : Operand) : Rep G (a.eval x) (ev env x) := by
  cases x with
  | tmp t => exact h t
  | const v => exact rep_ofV G v
  | global g => exact .v _
  | func f => exact .v _

theorem RepEnv.put {G : IG} {a : Act} {env : Env} (h : RepEnv G a env) {x : Value} {d : D} (hx : Rep G x d) (dst : Option Tmp) :
    RepEnv G (a.put dst x) (put a.tmps.size env dst d) := by
  cases dst with
  | none => exact h
  | some t =>
    intro k
    simp only [Act.put, put_some]
    split
    · rename_i ht
      rw [upd_at]
      split
      · rename_i hk
        subst hk
        simp [ht, hx]
      · rename_i hk
        have hk' : t ≠ k := fun e => hk e.symm
        have := h k
        simp only [Array.getD_eq_getD_getElem?] at this ⊢
        rw [Array.getElem?_setIfInBounds_ne hk']
        exact this
    · rename_i ht
      rw [Array.setIfInBounds_eq_of_size_le (by omega)]
      exact h k

theorem Act.size_put (a : Act) (dst : Option Tmp) (x : Value) : (a.put dst x).tmps.size = a.tmps.size := by
  cases dst <;> simp [Act.put]
theorem Act.defers_put (a : Act) (dst : Option Tmp) (x : Value) : (a.put dst x).defers = a.defers := by
  cases dst <;> rfl

/-- A CALL, in abstract words. -/
def CallA (P : Program) (W : World) (f : FuncId) (ds : List D) (H : Heap) (Q : D → Heap → Prop) : Prop :=
  ∀ (G : IG) (vs : List Value) (w : World), Inv W G H w → Reps G vs ds →
    Calls P f vs.toArray w fun e w' => ∃ G' v d H', e = .returned v ∧ G.le G' ∧ Inv W G' H' w' ∧ Rep G' v d ∧ Q d H'

theorem CallA.mono {P : Program} {W : World} {f : FuncId} {ds : List D} {H : Heap} {Q Q' : D → Heap → Prop} (h : CallA P W f ds H Q) (hq : ∀ d H', Q d H' → Q' d H') :
    CallA P W f ds H Q' :=
  fun G vs w hi hr => (h G vs w hi hr).mono fun e w' ⟨G', v, d, H', he, hG, hI, hR, hQ⟩ => ⟨G', v, d, H', he, hG, hI, hR, hq d H' hQ⟩

/-- A call whose contract is known: what it answers, the heap as it was. -/
theorem CallA.use {P : Program} {W : World} {H : Heap} {h : FuncId} {ds : List D} {r : D} {K : D → Heap → Prop} (hc : CallA P W h ds H fun d H' => d = r ∧ H' = H) (hK : K r H) : CallA P W h ds H K :=
  hc.mono fun d H' ⟨h1, h2⟩ => by subst h1; subst h2; exact hK

/-- From `todo` on the frame of function `f` runs to its end, and what it answers is as `Q` says. -/
def RunA (P : Program) (W : World) (f : FuncId) (N : Nat) (Q : D → Heap → Prop) (todo : List Item) (env : Env) (H : Heap) : Prop :=
  ∀ (G : IG) (a : Act) (w : World) (b : Frame) (cs : List Frame), Inv W G H w → RepEnv G a env → a.tmps.size = N → a.defers = [] → b.fn = f → b.kind = .normal →
    ∃ G' w' d H' v fr, Steps P (lone (b.at a todo) cs w) (lone fr cs w') ∧ G.le G' ∧ Inv W G' H' w' ∧ Rep G' v d ∧ Q d H' ∧ fr.fn = f ∧ fr.leaving P w' (.returned v)

section
variable {P : Program} {W : World} {f : FuncId} {N : Nat} {Q : D → Heap → Prop} {k : List Item} {env : Env} {H : Heap}

theorem RunA.step {t t' : List Item} (hs : ∀ (a : Act) (w : World) (b : Frame) (cs : List Frame), step P (lone (b.at a t) cs w) = .next (lone (b.at a t') cs w))
    (h : RunA P W f N Q t' env H) : RunA P W f N Q t env H := by
  intro G a w b cs hI hE hN hd hf hk
  obtain ⟨G', w', d, H', v, fr, hS, rest⟩ := h G a w b cs hI hE hN hd hf hk
  exact ⟨G', w', d, H', v, fr, .head (hs a w b cs) hS, rest⟩

theorem run_seq {x y : Code} (h : RunA P W f N Q (.code x :: .code y :: k) env H) : RunA P W f N Q (.code (.seq x y) :: k) env H :=
  h.step fun _ _ _ _ => step_seq
theorem run_skip (h : RunA P W f N Q k env H) : RunA P W f N Q (.code .skip :: k) env H := h.step fun _ _ _ _ => step_skip
theorem run_inBlock {id : Nat} (h : RunA P W f N Q k env H) : RunA P W f N Q (.inBlock id :: k) env H := h.step fun _ _ _ _ => step_inBlock
theorem run_block {id : Nat} {c : Code} (h : RunA P W f N Q (.code c :: .inBlock id :: k) env H) : RunA P W f N Q (.code (.block id c) :: k) env H :=
  h.step fun _ _ _ _ => step_block
theorem run_inLoop {c : Code} (h : RunA P W f N Q (.code c :: .inLoop c :: k) env H) : RunA P W f N Q (.inLoop c :: k) env H := h.step fun _ _ _ _ => step_inLoop
theorem run_loop1 {c : Code} (h : RunA P W f N Q (.code c :: .inLoop c :: k) env H) : RunA P W f N Q (.code (.loop c) :: k) env H := h.step fun _ _ _ _ => step_loop
theorem run_exit {id : Nat} {k' : List Item} (hx : exitTo id k = some k') (h : RunA P W f N Q k' env H) : RunA P W f N Q (.code (.exit id) :: k) env H :=
  h.step fun _ _ _ _ => step_exit hx

theorem run_cond {c : Operand} {x y : Code} {t : Bool} (hc : ev env c = .v (.bool t)) (ht : t = true → RunA P W f N Q (.code x :: k) env H)
    (hf : t = false → RunA P W f N Q (.code y :: k) env H) : RunA P W f N Q (.code (.cond c x y) :: k) env H := by
  intro G a w b cs hI hE hN hd hfn hk
  have hv : a.eval c = .bool t := by
    have := hE.ev c
    rw [hc] at this
    exact this.inv_v
  have hr : RunA P W f N Q (.code (if t then x else y) :: k) env H := by
    cases t
    · exact hf rfl
    · exact ht rfl
  obtain ⟨G', w', d, H', v, fr, hS, rest⟩ := hr G a w b cs hI hE hN hd hfn hk
  exact ⟨G', w', d, H', v, fr, .head (step_cond hv) hS, rest⟩

theorem run_cond_t {c : Operand} {x y : Code} (hc : ev env c = .v (.bool true)) (h : RunA P W f N Q (.code x :: k) env H) : RunA P W f N Q (.code (.cond c x y) :: k) env H :=
  run_cond hc (fun _ => h) (fun e => by cases e)
theorem run_cond_f {c : Operand} {x y : Code} (hc : ev env c = .v (.bool false)) (h : RunA P W f N Q (.code y :: k) env H) : RunA P W f N Q (.code (.cond c x y) :: k) env H :=
  run_cond hc (fun e => by cases e) (fun _ => h)

/-- A LOOP: what holds at each round's head, by what is left. -/
theorem run_loop (I : Nat → Env → Heap → Prop) (n : Nat) (h0 : I n env H) {c : Code}
    (hr : ∀ n env H, (∀ m env' H', m < n → I m env' H' → RunA P W f N Q (.inLoop c :: k) env' H') → I n env H → RunA P W f N Q (.code c :: .inLoop c :: k) env H) :
    RunA P W f N Q (.code (.loop c) :: k) env H := by
  refine run_loop1 ?_
  have key : ∀ n env H, I n env H → RunA P W f N Q (.code c :: .inLoop c :: k) env H := by
    intro n
    induction n using Nat.strongRecOn with
    | _ n ih => exact fun env H hI => hr n env H (fun m env' H' hm hI' => run_inLoop (ih m hm env' H' hI')) hI
  exact key n env H h0

/-- A place where ways meet. -/
theorem run_meet (J : Env → Heap → Prop) {t : List Item} (hk : ∀ env H, J env H → RunA P W f N Q t env H) (h : J env H) : RunA P W f N Q t env H := hk env H h

/-- What we don't want to know any longer. -/
theorem run_drop {t : List Item} {H' : Heap} (hs : ∀ b r, H' b = some r → H b = some r) (h : RunA P W f N Q t env H') : RunA P W f N Q t env H :=
  fun G a w b cs hI hE hN hd hfn hk => h G a w b cs (hI.weaken hs) hE hN hd hfn hk

theorem run_env {t : List Item} {env' : Env} (hs : ∀ G x k, Rep G x (env k) → Rep G x (env' k)) (h : RunA P W f N Q t env' H) : RunA P W f N Q t env H :=
  fun G a w b cs hI hE hN hd hfn hk => h G a w b cs hI (fun k => hs G _ k (hE k)) hN hd hfn hk

/-! ### the end -/

/-- The results. -/
def resA (P : Program) (H : Heap) (env : Env) : List ResultVar → Option (Prop × List D)
  | [] => some (True, [])
  | .tmp t :: l => match resA P H env l with
    | some (p, ds) => some (p, (env t).flat :: ds)
    | none => none
  | .cell a t :: l => match loadA P H t (env a), resA P H env l with
    | some (p, d), some (p', ds) => some (p ∧ p', d.flat :: ds)
    | _, _ => none

def tupA : List D → D
  | [d] => d
  | ds => .tup ds

/-- How one result is read. -/
def resSem (tmps : Array Value) : ResultVar → Sem Value
  | .tmp t => pure (tmps.getD t undef)
  | .cell x t => Sem.bind (asAddr (tmps.getD x undef)) fun ad => loadVar t ad

theorem results_eq (fn : Func) (tmps : Array Value) :
    results fn tmps = Sem.bind (fn.results.mapM (resSem tmps)) fun vs => pure (if h : vs.size = 1 then vs[0] else .tuple vs) := by
  unfold results
  show Sem.bind _ _ = _
  congr 2

theorem resA_run {G : IG} {w : World} {a : Act} (hI : Inv W G H w) (hE : RepEnv G a env) : ∀ (l : List ResultVar) (p : Prop) (ds : List D), resA P H env l = some (p, ds) → p →
    ∃ vs : List Value, (l.mapM (resSem a.tmps)).run P w = .ok vs w ∧ Reps G vs ds
  | [], p, ds, h, hp => by
    simp [resA] at h
    obtain ⟨_, rfl⟩ := h
    exact ⟨[], by simp, Reps.nil G⟩
  | .tmp t :: l, p, ds, h, hp => by
    unfold resA at h
    split at h
    · rename_i p' ds' hl
      simp at h
      obtain ⟨hp', rfl⟩ := h
      obtain ⟨vs, hvs, hr⟩ := resA_run hI hE l p' ds' hl (by rw [hp']; exact hp)
      refine ⟨a.tmps.getD t undef :: vs, ?_, Reps.cons (hE t).flat hr⟩
      simp only [List.mapM_cons, Sem.run_bind, hvs, resSem, Sem.run_pure, Result.andThen_ok]
    · cases h
  | .cell x t :: l, p, ds, h, hp => by
    unfold resA at h
    split at h
    · rename_i p1 d1 p2 ds2 hd hl
      simp at h
      obtain ⟨hp', rfl⟩ := h
      rw [← hp'] at hp
      obtain ⟨vs, hvs, hr⟩ := resA_run hI hE l p2 ds2 hl hp.2
      obtain ⟨v, hv, hrv⟩ := loadA_ok hd hp.1 hI (hE x)
      have hptr : ∃ ad, a.tmps.getD x undef = .pointer (some ad) := by
        generalize hxv : a.tmps.getD x undef = y at hv
        simp only [Instr.loadAt, Sem.run_bind] at hv
        cases y with
        | pointer o =>
          cases o with
          | none => simp [Instr.sureAddr] at hv
          | some ad => exact ⟨ad, rfl⟩
        | _ => simp [Instr.sureAddr] at hv
      obtain ⟨ad, had⟩ := hptr
      refine ⟨v :: vs, ?_, Reps.cons hrv.flat hr⟩
      rw [had] at hv
      simp only [Instr.loadAt, Instr.sureAddr, Sem.run_bind, Sem.run_pure, Result.andThen_ok] at hv
      have h1 : (resSem a.tmps (.cell x t)).run P w = .ok v w := by
        show (Sem.bind (asAddr (a.tmps.getD x undef)) fun ad => loadVar t ad).run P w = .ok v w
        rw [had, Sem.run_bind']
        simp [asAddr, hv]
      simp only [List.mapM_cons, Sem.run_bind, hvs, h1, Sem.run_pure, Result.andThen_ok]
    · cases h

theorem run_results {G : IG} {w : World} {a : Act} {fn : Func} (hI : Inv W G H w) (hE : RepEnv G a env) {p : Prop} {ds : List D} (h : resA P H env fn.results.toList = some (p, ds)) (hp : p) :
    ∃ v, (results fn a.tmps).run P w = .ok v w ∧ Rep G v (tupA ds) := by
  obtain ⟨vs, hvs, hr⟩ := resA_run hI hE _ p ds h hp
  have hm : (fn.results.mapM (resSem a.tmps)).run P w = .ok vs.toArray w := by
    rw [Array.mapM_eq_mapM_toList, Sem.run_map, hvs]; rfl
  refine ⟨if h : vs.toArray.size = 1 then vs.toArray[0] else .tuple vs.toArray, ?_, ?_⟩
  · rw [results_eq, Sem.run_bind', hm]
    rfl
  · have hlen := hr.1
    match ds, vs, hlen, hr with
    | [], [], _, hr => exact Rep.mkTup hr
    | [d], [v], _, hr => simpa [tupA] using hr.2 0 d v rfl rfl
    | d :: d' :: ds, v :: v' :: vs, _, hr =>
      rw [dif_neg (by simp)]
      exact Rep.mkTup hr

/-- A part of the heap. -/
def Heap.sub (H' H : Heap) : Prop := ∀ b r, H' b = some r → H b = some r
theorem Heap.sub_refl (H : Heap) : H.sub H := fun _ _ h => h
theorem Heap.sub_set {H K : Heap} {b : Nat} {r : Res} (h : H.sub K) (hb : K b = none) : H.sub (K.set b r) := by
  intro c s hc
  have hcb : c ≠ b := by
    intro e; subst e
    rw [h c s hc] at hb; cases hb
  rw [Heap.set_other _ _ hcb]
  exact h c s hc
theorem Heap.sub_set2 {H K : Heap} {b : Nat} {r : Res} (h : H.sub K) (hb : H b = none) : H.sub (K.set b r) := by
  intro c s hc
  have hcb : c ≠ b := by
    intro e; subst e
    rw [hc] at hb; cases hb
  rw [Heap.set_other _ _ hcb]
  exact h c s hc
theorem Heap.set_none {H : Heap} {b k : Nat} {r : Res} : (H.set b r) k = none ↔ k ≠ b ∧ H k = none := by
  rw [Heap.set_at]; split <;> simp_all
theorem Heap.set_none' {H : Heap} {b k : Nat} {r : Res} : (H.set b r) k = none ↔ (k ≠ b ∧ b ≠ k) ∧ H k = none := by
  rw [Heap.set_none]; constructor
  · rintro ⟨h, k⟩; exact ⟨⟨h, fun e => h e.symm⟩, k⟩
  · rintro ⟨⟨h, _⟩, k⟩; exact ⟨h, k⟩
theorem Heap.ne_of_none {H : Heap} {b : Nat} (h : H b = none) : ∀ c, (H c).isSome = true → (c = b) = False ∧ (b = c) = False := by
  intro c hc
  have hne : c ≠ b := fun e => by subst e; rw [h] at hc; cases hc
  exact ⟨eq_false hne, eq_false fun e => hne e.symm⟩
theorem Heap.sub.trans {A B C : Heap} (h : A.sub B) (k : B.sub C) : A.sub C := fun b r hb => k b r (h b r hb)

theorem run_end {fn : Func} (hf : P.funcs[f]? = some fn) {R : List ResultVar} (hR : fn.results = R.toArray) {p : Prop} {ds : List D} (h : resA P H env R = some (p, ds)) (hp : p) {H' : Heap}
    (hs : H'.sub H) (hq : Q (tupA ds) H') : RunA P W f N Q [] env H := by
  replace hR : fn.results.toList = R := by rw [hR]
  subst hR
  intro G a w b cs hI hE hN hd hfn hk
  obtain ⟨v, hv, hr⟩ := run_results (fn := fn) hI hE h hp
  exact ⟨G, w, tupA ds, H', v, _, .one step_end, .refl G, hI.weaken hs, hr, hq, hfn, rfl, hd, hk, fn, by show P.funcs[b.fn]? = some fn; rw [hfn]; exact hf, hv⟩

theorem run_ret {fn : Func} (hf : P.funcs[f]? = some fn) {R : List ResultVar} (hR : fn.results = R.toArray) {p : Prop} {ds : List D} (h : resA P H env R = some (p, ds)) (hp : p) {H' : Heap}
    (hs : H'.sub H) (hq : Q (tupA ds) H') : RunA P W f N Q (.code .ret :: k) env H := by
  replace hR : fn.results.toList = R := by rw [hR]
  subst hR
  intro G a w b cs hI hE hN hd hfn hk
  obtain ⟨v, hv, hr⟩ := run_results (fn := fn) hI hE h hp
  exact ⟨G, w, tupA ds, H', v, _, .one step_ret, .refl G, hI.weaken hs, hr, hq, hfn, rfl, hd, hk, fn, by show P.funcs[b.fn]? = some fn; rw [hfn]; exact hf, hv⟩

/-! ### the beginning -/

/-- The slots as a call begins. -/
def env0 (ds : List D) : Env := fun k => ds.getD k (.v undef)

theorem call_of_run {fn : Func} (hf : P.funcs[f]? = some fn) {c : Code} (hb : fn.body = some c) {ds : List D} (hN : ds.length ≤ fn.ntmps)
    (h : RunA P W f fn.ntmps Q [.code c] (env0 ds) H) : CallA P W f ds H Q := by
  intro G vs w hI hR cs
  have hlen : vs.length = ds.length := hR.1
  let b : Frame := { (default : Frame) with fn := f, kind := .normal }
  let a : Act := { tmps := vs.toArray ++ Array.replicate (fn.ntmps - vs.toArray.size) undef, defers := [] }
  have henter : Frame.enter P f vs.toArray .normal = b.at a [.code c] := by
    simp [Frame.enter, Frame.at, hf, hb, b, a]
  have hE : RepEnv G a (env0 ds) := by
    intro k
    show Rep G ((vs.toArray ++ Array.replicate (fn.ntmps - vs.toArray.size) undef).getD k undef) (ds.getD k (.v undef))
    by_cases hk : k < ds.length
    · have hk' : k < vs.length := by omega
      have h1 : (vs.toArray ++ Array.replicate (fn.ntmps - vs.toArray.size) undef).getD k undef = vs[k] := by
        simp [Array.getD_eq_getD_getElem?, Array.getElem?_append, hk']
      rw [h1]
      have h2 : ds.getD k (.v undef) = ds[k] := by simp [List.getD, List.getElem?_eq_getElem hk]
      rw [h2]
      exact hR.2 k _ _ (List.getElem?_eq_getElem hk) (List.getElem?_eq_getElem hk')
    · have hk' : ¬ k < vs.length := by omega
      have h1 : (vs.toArray ++ Array.replicate (fn.ntmps - vs.toArray.size) undef).getD k undef = undef := by
        simp only [Array.getD_eq_getD_getElem?, Array.getElem?_append, List.size_toArray, if_neg hk', Array.getElem?_replicate]
        split <;> rfl
      rw [h1]
      have h2 : ds.getD k (.v undef) = .v undef := by simp [List.getD, List.getElem?_eq_none (Nat.not_lt.1 hk)]
      rw [h2]
      exact .v _
  obtain ⟨G', w', d, H', v, fr, hS, hG, hI', hR', hQ, hfn, hl⟩ := h G a w b cs hI hE (by simp [a]; omega) rfl rfl rfl
  rw [← henter] at hS
  exact ⟨.returned v, w', fr, ⟨G', v, d, H', rfl, hG, hI', hR', hQ⟩, hS, hfn, hl⟩

theorem call_in {fn : Func} (hf : P.funcs[f]? = some fn) {c : Code} (hb : fn.body = some c) (hN : fn.ntmps = N) {ds : List D} (hl : ds.length ≤ N)
    (h : RunA P W f N Q [.code c] (env0 ds) H) : CallA P W f ds H Q := by
  subst hN
  exact call_of_run hf hb hl h
end
end Go.Sn
