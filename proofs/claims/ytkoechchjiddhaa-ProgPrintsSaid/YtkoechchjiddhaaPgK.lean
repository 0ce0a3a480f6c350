/-
  Plain laws: a program's bytes are the program; cut off they are none.
-/
import Derived.Test.YtkoechchjiddhaaPgJ
set_option linter.unusedSimpArgs false
set_option linter.unusedVariables false
namespace Go.Proofs.Ytkoechchjiddhaa
open Go Go.Sn Go.RowKit

def b8 (n : Int) : UInt8 := UInt8.ofNat n.toNat
def bsP (p : Pg) : List UInt8 := (prB p).map b8
theorem str_bsP (p : Pg) : strOfNums (prB p) = strL (bsP p) := rfl
theorem b8u (x : Int) : ((b8 (u8 x)).toNat : Int) = x % 256 := by
  have h : u8 x = x % 256 := by unfold u8; rw [IntKind.wrap_u8]
  rw [h]
  unfold b8
  rw [UInt8.toNat_ofNat']
  omega
theorem b8n {x : Int} (h0 : 0 ≤ x) (h1 : x < 256) : ((b8 (u8 x)).toNat : Int) = x := by rw [b8u]; omega
theorem b8_sg {x : Int} (h0 : -128 ≤ x) (h1 : x ≤ 127) : sg (b8 (u8 x)) = x := by
  have h := b8u x
  unfold sg
  split <;> omega
theorem u8_ext {a b : UInt8} (h : (a.toNat : Int) = (b.toNat : Int)) : a = b := UInt8.toNat_inj.1 (by omega)
theorem b8_nat (d : UInt8) : b8 (u8 (d.toNat : Int)) = d := u8_ext (by rw [b8u]; have := d.toNat_lt; omega)
theorem b8_sg' (d : UInt8) : b8 (u8 (sg d)) = d := u8_ext (by rw [b8u]; have := d.toNat_lt; unfold sg; split <;> omega)

theorem in_back {v m n : Int} {i : In} (h : insR v m n i = true) (hv : okVM v m) (hn : n ≤ 8) : inOf (b8 (u8 i.kd)) (b8 (u8 i.r)) (b8 (u8 i.x)) (b8 (u8 i.n)) = i := by
  unfold insR at h
  rw [decide_eq_true_eq] at h
  obtain ⟨⟨v0, v1⟩, m0, m1⟩ := hv
  obtain ⟨k, r, x, q⟩ := i
  simp only at h
  show In.mk _ _ _ _ = _
  simp only
  rw [b8n (by omega) (by omega), b8n (by omega) (by omega), b8n (by omega) (by omega), b8_sg (by omega) (by omega)]
theorem chunk_back {v m n : Int} (hv : okVM v m) (hn : n ≤ 8) : ∀ (c : List In), c.all (insR v m n) = true → ∀ rest, chunk c.length ((c.flatMap inB).map b8 ++ rest) = c
  | [], _, _ => rfl
  | i :: c, h, rest => by
    rw [List.all_cons, Bool.and_eq_true] at h
    have ih := chunk_back hv hn c h.2 rest
    have hi := in_back h.1 hv hn
    simp only [List.length_cons, chunk, List.flatMap_cons, inB, List.map_append, List.map_cons, List.map_nil, List.cons_append, List.nil_append, List.getD_cons_zero, List.getD_cons_succ, List.drop_succ_cons, List.drop_zero]
    rw [ih, hi]
theorem thr_of {v m : Int} {c : List In} (h : thrR v m c = true) : c.length ≤ 8 ∧ c.all (insR v m (c.length : Int)) = true := by
  unfold thrR at h
  rw [Bool.and_eq_true, decide_eq_true_eq] at h
  exact h
theorem inB_len8 (c : List In) : ((c.flatMap inB).map b8).length = 4 * c.length := by rw [List.length_map, inB_len]
theorem len_b8 {c : List In} (h : c.length ≤ 8) : (b8 (u8 (c.length : Int))).toNat = c.length := by have := b8n (x := (c.length : Int)) (by omega) (by omega); omega
theorem th_back {v m : Int} (hv : okVM v m) {c : List In} (h : thrR v m c = true) (rest : List UInt8) :
    thErr ((thB c).map b8 ++ rest) = 0 ∧ thCode ((thB c).map b8 ++ rest) = c ∧ thRest ((thB c).map b8 ++ rest) = rest := by
  obtain ⟨h8, hall⟩ := thr_of h
  have e : (thB c).map b8 ++ rest = b8 (u8 (c.length : Int)) :: ((c.flatMap inB).map b8 ++ rest) := rfl
  have hN : thN ((thB c).map b8 ++ rest) = c.length := by rw [e]; unfold thN; simp only [List.getD_cons_zero]; exact len_b8 h8
  have hne : (thB c).map b8 ++ rest ≠ [] := by rw [e]; simp
  have hd : ((thB c).map b8 ++ rest).drop 1 = (c.flatMap inB).map b8 ++ rest := by rw [e]; rfl
  have hl := inB_len8 c
  have h0 : thErr ((thB c).map b8 ++ rest) = 0 := by
    unfold thErr
    rw [if_neg hne, hN, if_neg (by omega), hd, if_neg (by rw [List.length_append, hl]; omega)]
  refine ⟨h0, ?_, ?_⟩
  · unfold thCode
    rw [if_pos h0, hN, hd, chunk_back hv (by omega) c hall rest]
  · unfold thRest
    rw [if_neg hne, if_pos h0, hN, hd, ← hl, List.drop_left]
theorem rdT_back {v m : Int} (hv : okVM v m) : ∀ (l : List (List In)), l.all (thrR v m) = true → ∀ rest, rdT l.length ((l.flatMap thB).map b8 ++ rest) = (0, l, rest)
  | [], _, rest => by simp [rdT]
  | c :: l, h, rest => by
    rw [List.all_cons, Bool.and_eq_true] at h
    obtain ⟨h1, h2, h3⟩ := th_back hv h.1 ((l.flatMap thB).map b8 ++ rest)
    have ih := rdT_back hv l h.2 rest
    rw [List.flatMap_cons, List.map_append, List.append_assoc, List.length_cons, rdT, if_pos h1, h2, h3, ih]
theorem right_of {p : Pg} (h : rightP p = true) : okVM p.vs p.ms ∧ (1 ≤ p.th.length ∧ p.th.length ≤ 4) ∧ p.th.all (thrR p.vs p.ms) = true := by
  unfold rightP at h
  rw [Bool.and_eq_true, decide_eq_true_eq] at h
  exact ⟨⟨h.1.1, h.1.2.1⟩, h.1.2.2, h.2⟩
theorem bsP_eq (p : Pg) : bsP p = b8 (u8 p.vs) :: b8 (u8 p.ms) :: b8 (u8 (p.th.length : Int)) :: (p.th.flatMap thB).map b8 := by
  unfold bsP prB hdB
  simp
theorem bsP_len (p : Pg) : (bsP p).length = 3 + (p.th.flatMap thB).length := by rw [bsP_eq]; simp; omega
theorem pgOf_hd {p : Pg} (h : okVM p.vs p.ms) (x : UInt8) (s : List UInt8) (l : List (List In)) : pgOf (b8 (u8 p.vs) :: b8 (u8 p.ms) :: x :: s) l = ⟨p.vs, p.ms, l⟩ := by
  obtain ⟨⟨v0, v1⟩, m0, m1⟩ := h
  unfold pgOf
  simp only [List.getD_cons_zero, List.getD_cons_succ]
  rw [b8n (by omega) (by omega), b8n (by omega) (by omega)]
theorem thn_b8 {p : Pg} (h : p.th.length ≤ 4) : (b8 (u8 (p.th.length : Int))).toNat = p.th.length := by have := b8n (x := (p.th.length : Int)) (by omega) (by omega); omega
/-- The bytes of a program that may be are that program. -/
theorem rdP_back {p : Pg} (h : rightP p = true) : rdP (bsP p) = (0, p) := by
  obtain ⟨hv, ⟨h1, h4⟩, hall⟩ := right_of h
  have hT := rdT_back hv p.th hall []
  rw [List.append_nil] at hT
  have hlen := bsP_len p
  unfold rdP
  rw [if_neg (by omega), bsP_eq]
  simp only [List.getD_cons_zero, List.getD_cons_succ, List.drop_succ_cons, List.drop_zero]
  rw [thn_b8 h4, if_neg (by omega), hT, pgOf_hd hv]
  simp only [if_true, true_and]
  rw [if_pos h]

theorem chunk_bytes : ∀ (n : Nat) (s : List UInt8), 4 * n ≤ s.length → ((chunk n s).flatMap inB).map b8 = s.take (4 * n)
  | 0, s, _ => by simp [chunk]
  | n + 1, a :: b :: c :: d :: s, h => by
    have ih := chunk_bytes n s (by simp only [List.length_cons] at h; omega)
    have e : 4 * (n + 1) = 4 * n + 1 + 1 + 1 + 1 := by omega
    simp only [chunk, List.getD_cons_zero, List.getD_cons_succ, List.drop_succ_cons, List.drop_zero, List.flatMap_cons, List.map_append, ih, e, List.take_succ_cons, inB, inOf, List.map_cons, List.map_nil, b8_nat, b8_sg', List.cons_append, List.nil_append]
  | n + 1, [], h => by simp at h
  | n + 1, [_], h => by simp at h; omega
  | n + 1, [_, _], h => by simp at h; omega
  | n + 1, [_, _, _], h => by simp at h; omega
theorem th_bytes {s : List UInt8} (h : thErr s = 0) : (thB (thCode s)).map b8 ++ thRest s = s := by
  have h' := h
  unfold thErr at h'
  split at h'
  · cases h'
  · rename_i hne
    split at h'
    · cases h'
    · rename_i h8
      split at h'
      · cases h'
      · rename_i hl
        obtain ⟨x, s, rfl⟩ := List.exists_cons_of_ne_nil hne
        have hN : thN (x :: s) = x.toNat := rfl
        simp only [List.drop_succ_cons, List.drop_zero] at hl
        unfold thCode thRest
        rw [if_pos h, if_neg hne, if_pos h]
        simp only [List.drop_succ_cons, List.drop_zero, thB, List.map_cons]
        rw [chunk_bytes _ _ (by omega), chunk_len, hN, b8_nat, List.cons_append, List.take_append_drop]
theorem rdT_bytes : ∀ (m : Nat) (s : List UInt8), (rdT m s).1 = 0 → ((rdT m s).2.1.flatMap thB).map b8 ++ (rdT m s).2.2 = s ∧ (rdT m s).2.1.length = m
  | 0, s, _ => by simp [rdT]
  | m + 1, s, h => by
    by_cases h0 : thErr s = 0
    · rw [rdT, if_pos h0] at h ⊢
      obtain ⟨h1, h2⟩ := rdT_bytes m _ h
      refine ⟨?_, by simp [h2]⟩
      simp only [List.flatMap_cons, List.map_append, List.append_assoc]
      rw [h1, th_bytes h0]
    · rw [rdT, if_neg h0] at h
      exact absurd h h0
theorem rdT_cnt : ∀ (m : Nat) (s : List UInt8), (rdT m s).2.1.length ≤ m
  | 0, s => by simp [rdT]
  | m + 1, s => by
    rw [rdT]
    split
    · have := rdT_cnt m (thRest s)
      simp only [List.length_cons]
      omega
    · simp
theorem rdP_few (s : List UInt8) : FewP (rdP s).2 := by
  have z : FewP pg0 := ⟨by decide, by simp [pg0]⟩
  unfold rdP
  split
  · exact z
  · split
    · exact z
    · split
      · split
        · have h1 := rdT_cnt (s.getD 2 0).toNat (s.drop 3)
          refine ⟨?_, fun c hc => ?_⟩
          · show (rdT (s.getD 2 0).toNat (s.drop 3)).2.1.length ≤ 20
            omega
          · have := rdT_len _ _ c hc
            omega
        · exact z
      · exact z
/-- What is read is a program that may be, and has those bytes. -/
theorem rdP_bytes {s : List UInt8} (h : (rdP s).1 = 0) : rightP (rdP s).2 = true ∧ bsP (rdP s).2 = s := by
  unfold rdP at h ⊢
  by_cases h3 : s.length < 3
  · rw [if_pos h3] at h; cases h
  · rw [if_neg h3] at h ⊢
    by_cases h4 : 4 < (s.getD 2 0).toNat
    · rw [if_pos h4] at h; cases h
    · rw [if_neg h4] at h ⊢
      by_cases h0 : (rdT (s.getD 2 0).toNat (s.drop 3)).1 = 0
      · rw [if_pos h0] at h ⊢
        by_cases h5 : (rdT (s.getD 2 0).toNat (s.drop 3)).2.2 = [] ∧ rightP (pgOf s (rdT (s.getD 2 0).toNat (s.drop 3)).2.1) = true
        · rw [if_pos h5]
          refine ⟨h5.2, ?_⟩
          obtain ⟨h6, h7⟩ := rdT_bytes _ _ h0
          rw [h5.1, List.append_nil] at h6
          generalize hl : (rdT (s.getD 2 0).toNat (s.drop 3)).2.1 = l at *
          rw [bsP_eq]
          unfold pgOf
          simp only
          rw [h6, h7, b8_nat, b8_nat, b8_nat]
          obtain ⟨a, s, rfl⟩ : ∃ a t, s = a :: t := List.exists_cons_of_ne_nil (by rintro rfl; simp at h3)
          obtain ⟨b, s, rfl⟩ : ∃ a t, s = a :: t := List.exists_cons_of_ne_nil (by rintro rfl; simp at h3)
          obtain ⟨c, s, rfl⟩ : ∃ a t, s = a :: t := List.exists_cons_of_ne_nil (by rintro rfl; simp at h3)
          rfl
        · rw [if_neg h5] at h; cases h
      · rw [if_neg h0] at h; exact absurd h h0

theorem rdT_cut {v m : Int} (hv : okVM v m) : ∀ (l : List (List In)), l.all (thrR v m) = true → ∀ k, k < ((l.flatMap thB).map b8).length → (rdT l.length (((l.flatMap thB).map b8).take k)).1 = 4
  | [], _, k, h => by simp at h
  | c :: l, h, k, hk => by
    rw [List.all_cons, Bool.and_eq_true] at h
    obtain ⟨h8, hall⟩ := thr_of h.1
    have hb : ((c :: l).flatMap thB).map b8 = (thB c).map b8 ++ (l.flatMap thB).map b8 := by rw [List.flatMap_cons, List.map_append]
    have hl : ((thB c).map b8).length = 1 + 4 * c.length := by rw [List.length_map, thB_len]
    rw [hb] at hk ⊢
    rw [List.length_append, hl] at hk
    by_cases hlt : k < 1 + 4 * c.length
    · rw [List.take_append_of_le_length (by omega), List.length_cons]
      have h4 : thErr (((thB c).map b8).take k) = 4 := by
        unfold thErr
        cases k with
        | zero => rfl
        | succ k =>
          have e : ((thB c).map b8).take (k + 1) = b8 (u8 (c.length : Int)) :: ((c.flatMap inB).map b8).take k := rfl
          have hN : thN (b8 (u8 (c.length : Int)) :: ((c.flatMap inB).map b8).take k) = c.length := by unfold thN; simp only [List.getD_cons_zero]; exact len_b8 h8
          rw [e, if_neg (by simp), hN, if_neg (by omega), if_pos]
          simp only [List.drop_succ_cons, List.drop_zero, List.length_take, inB_len8]
          omega
      rw [rdT, if_neg (by rw [h4]; decide), h4]
    · have e : ((thB c).map b8 ++ (l.flatMap thB).map b8).take k = (thB c).map b8 ++ ((l.flatMap thB).map b8).take (k - (1 + 4 * c.length)) := by
        rw [List.take_append, List.take_of_length_le (by omega), hl]
      obtain ⟨h1, h2, h3⟩ := th_back hv h.1 (((l.flatMap thB).map b8).take (k - (1 + 4 * c.length)))
      rw [e, List.length_cons, rdT, if_pos h1, h2, h3]
      exact rdT_cut hv l h.2 _ (by omega)
/-- Bytes that are cut off are none. -/
theorem rdP_cut {p : Pg} (h : rightP p = true) {k : Nat} (hk : k < (bsP p).length) : (rdP ((bsP p).take k)).1 = 4 := by
  obtain ⟨hv, ⟨h1, h4⟩, hall⟩ := right_of h
  have hlen := bsP_len p
  by_cases h3 : k < 3
  · unfold rdP
    rw [if_pos (by rw [List.length_take]; omega)]
  · have hb := bsP_eq p
    have hT := rdT_cut hv p.th hall (k - 3) (by rw [List.length_map]; omega)
    obtain ⟨j, rfl⟩ : ∃ j, k = j + 3 := ⟨k - 3, by omega⟩
    rw [Nat.add_sub_cancel] at hT
    unfold rdP
    rw [if_neg (by rw [List.length_take]; omega), hb]
    simp only [List.take_succ_cons, List.getD_cons_zero, List.getD_cons_succ, List.drop_succ_cons, List.drop_zero]
    rw [thn_b8 h4, if_neg (by omega), if_neg (by rw [hT]; decide)]
    exact hT
theorem bsP_inj {a b : Pg} (ha : rightP a = true) (hb : rightP b = true) (h : bsP a = bsP b) : a = b := by
  have h1 := rdP_back ha
  rw [h, rdP_back hb] at h1
  exact (Prod.mk.inj h1).2.symm
end Go.Proofs.Ytkoechchjiddhaa
