/- Plain law: bits turned within 16 in a row. -/
import Derived.Test.YtogdbccfkbbcaaaFrameL
namespace Go.Proofs.Ytogdbccfkbbcaaa
open Go.RowKit Crc
/-- Bit m of bytes, the highest of the first byte is bit 0. -/
theorem bitsL_at (l : List UInt8) : ∀ i j, j < 8 → (bitsL l)[8 * i + j]? = (l[i]?).map fun c => c.toNat.testBit (7 - j) := by
  induction l with
  | nil => intro i j _; simp [bitsL]
  | cons c r ih =>
    intro i j hj
    have e : bitsL (c :: r) = bitsB c ++ bitsL r := by simp [bitsL]
    rw [e]
    cases i with
    | zero =>
      rw [Nat.mul_zero, Nat.zero_add, List.getElem?_append_left (by rw [bitsB_length]; omega)]
      simp [bitsB, hj]
    | succ i =>
      rw [List.getElem?_append_right (by rw [bitsB_length]; omega), bitsB_length, show 8 * (i + 1) + j - 8 = 8 * i + j from by omega, ih i j hj]
      simp
theorem bitsL_length (l : List UInt8) : (bitsL l).length = 8 * l.length := by
  induction l with
  | nil => rfl
  | cons c r ih =>
    have e : bitsL (c :: r) = bitsB c ++ bitsL r := by simp [bitsL]
    rw [e, List.length_append, bitsB_length, ih, List.length_cons]
    omega
theorem turn_bit : ∀ (c : Fin 256) (k j : Fin 8), (c.val ^^^ (128 >>> k.val)).testBit (7 - j.val) = (c.val.testBit (7 - j.val) ^^ decide (j = k)) := by decide +kernel
/-- One bit of bytes, turned. -/
def turn1 (l : List UInt8) (m : Nat) : List UInt8 := l.set (m / 8) (l.getD (m / 8) 0 ^^^ UInt8.ofNat (128 >>> (m % 8)))
theorem turn1_length (l : List UInt8) (m : Nat) : (turn1 l m).length = l.length := by simp [turn1]
theorem u8_turn (c : UInt8) (k : Nat) (hk : k < 8) : (c ^^^ UInt8.ofNat (128 >>> k)).toNat = c.toNat ^^^ (128 >>> k) := by
  rw [UInt8.toNat_xor, UInt8.toNat_ofNat', Nat.mod_eq_of_lt]
  have : ∀ k : Fin 8, 128 >>> k.val < 2 ^ 8 := by decide
  exact this ⟨k, hk⟩
theorem bitsL_turn1 (l : List UInt8) (m q : Nat) (hm : m < 8 * l.length) : (bitsL (turn1 l m))[q]? = ((bitsL l)[q]?).map fun b => b ^^ decide (q = m) := by
  have hq : q = 8 * (q / 8) + q % 8 := by omega
  have hj : q % 8 < 8 := by omega
  have hk : m % 8 < 8 := by omega
  rw [hq, bitsL_at _ _ _ hj, bitsL_at _ _ _ hj, ← hq]
  unfold turn1
  by_cases h : m / 8 = q / 8
  · have hl : m / 8 < l.length := by omega
    rw [← h, List.getElem?_set_self hl, List.getElem?_eq_getElem hl]
    simp only [Option.map_some]
    have hg : l.getD (m / 8) 0 = l[m / 8] := by simp [List.getD, hl]
    rw [hg, u8_turn _ _ hk]
    have ht := turn_bit ⟨l[m / 8].toNat, l[m / 8].toNat_lt⟩ ⟨m % 8, hk⟩ ⟨q % 8, hj⟩
    simp only at ht
    rw [ht]
    congr 2
    simp only [Fin.mk.injEq, decide_eq_decide]
    omega
  · rw [List.getElem?_set_ne h]
    have : decide (q = m) = false := decide_eq_false (by rintro rfl; exact h rfl)
    rw [this]
    cases l[q / 8]? <;> simp
/-- The first k of 16 bits, turned. -/
def turnN (l : List UInt8) (at_ : Nat) (turn : Nat) : Nat → List UInt8
  | 0 => l
  | k + 1 => if turn.testBit k then turn1 (turnN l at_ turn k) (at_ + k) else turnN l at_ turn k
theorem turnN_length (l : List UInt8) (a t k : Nat) : (turnN l a t k).length = l.length := by
  induction k with
  | zero => rfl
  | succ k ih => unfold turnN; split <;> simp [turn1_length, ih]
theorem bitsL_turnN (l : List UInt8) (a t : Nat) (q : Nat) : ∀ k, a + k ≤ 8 * l.length → (bitsL (turnN l a t k))[q]? = ((bitsL l)[q]?).map fun b => b ^^ (decide (a ≤ q) && decide (q < a + k) && t.testBit (q - a)) := by
  intro k
  induction k with
  | zero =>
    intro _
    have : (decide (a ≤ q) && decide (q < a + 0) && t.testBit (q - a)) = false := by
      by_cases h : a ≤ q
      · rw [decide_eq_false (show ¬ q < a + 0 by omega)]; simp
      · rw [decide_eq_false h]; simp
    rw [this]
    show (bitsL l)[q]? = _
    cases (bitsL l)[q]? <;> simp
  | succ k ih =>
    intro hk
    have ih := ih (by omega)
    unfold turnN
    by_cases ht : t.testBit k = true
    · rw [if_pos ht, bitsL_turn1 _ _ _ (by rw [turnN_length]; omega), ih, Option.map_map]
      congr 1
      funext b
      show (b ^^ _ ^^ _) = _
      rw [Bool.xor_assoc]
      congr 1
      by_cases hq : q = a + k
      · subst hq
        rw [decide_eq_false (show ¬ a + k < a + k by omega), show a + k - a = k from by omega, ht]
        simp
      · rw [decide_eq_false hq, Bool.xor_false]
        congr 2
        rw [decide_eq_decide]
        omega
    · rw [if_neg ht, ih]
      congr 1
      funext b
      congr 1
      by_cases hq : q = a + k
      · subst hq
        rw [show a + k - a = k from by omega]
        simp at ht
        rw [ht]
        simp
      · congr 2
        rw [decide_eq_decide]
        omega
theorem some_bit (t : Nat) (h16 : t < 65536) (h0 : t ≠ 0) : ∃ i, i < 16 ∧ t.testBit i = true := by
  obtain ⟨i, hi⟩ := Nat.exists_testBit_of_ne_zero h0
  refine ⟨i, ?_, hi⟩
  rcases Nat.lt_or_ge i 16 with h | h
  · exact h
  · have : t < 2 ^ i := Nat.lt_of_lt_of_le h16 (show 2 ^ 16 ≤ 2 ^ i from Nat.pow_le_pow_right (by omega) h)
    rw [Nat.testBit_lt_two_pow this] at hi
    exact absurd hi (by simp)
/-- **Bits turned within 16 in a row: the register differs.** -/
theorem regL_turn (l : List UInt8) (a t : Nat) (ha : a + 16 ≤ 8 * l.length) (h16 : t < 65536) (h0 : t ≠ 0) : regL (turnN l a t 16) ≠ regL l := by
  obtain ⟨i, hi, hti⟩ := some_bit t h16 h0
  have hq := fun q => bitsL_turnN l a t q 16 ha
  have hl : (bitsL l).length = 8 * l.length := bitsL_length l
  have hl' : (bitsL (turnN l a t 16)).length = 8 * l.length := by rw [bitsL_length, turnN_length]
  unfold regL
  generalize bitsL (turnN l a t 16) = B' at hq hl' ⊢
  generalize bitsL l = B at hq hl ⊢
  have split : ∀ C : List Bool, C = C.take a ++ (C.drop a).take 16 ++ C.drop (a + 16) := by
    intro C
    rw [← List.drop_drop, List.append_assoc, List.take_append_drop, List.take_append_drop]
  have hp : B'.take a = B.take a := by
    apply List.ext_getElem?
    intro q
    rw [List.getElem?_take, List.getElem?_take]
    by_cases h : q < a
    · rw [if_pos h, if_pos h, hq q, decide_eq_false (show ¬ a ≤ q by omega)]
      cases B[q]? <;> simp
    · rw [if_neg h, if_neg h]
  have he : B'.drop (a + 16) = B.drop (a + 16) := by
    apply List.ext_getElem?
    intro q
    rw [List.getElem?_drop, List.getElem?_drop, hq, decide_eq_false (show ¬ a + 16 + q < a + 16 by omega)]
    cases B[a + 16 + q]? <;> simp
  rw [split B', split B, hp, he]
  refine burst _ _ _ _ _ ?_ ?_ ?_
  · simp; omega
  · simp; omega
  · intro h
    have h1 := congrArg (fun C : List Bool => C[i]?) h
    simp only [List.getElem?_take, List.getElem?_drop, if_pos hi] at h1
    rw [hq, show a + i - a = i from by omega, hti, decide_eq_true (show a ≤ a + i by omega), decide_eq_true (show a + i < a + 16 by omega)] at h1
    have hb : B[a + i]? = some (B[a + i]'(by omega)) := List.getElem?_eq_getElem (by omega)
    rw [hb] at h1
    simp at h1
/-- **What is decoded of a code with bits turned within 16 in a row: ErrSum.** -/
theorem decF_turn (f : Fr) (a t : Nat) (ha : a + 16 ≤ 8 * (encS f).length) (h16 : t < 65536) (h0 : t ≠ 0) : decF (turnN (encS f) a t 16) = (Fr0, 5) := by
  have hr := regL_turn (encS f) a t ha h16 h0
  obtain ⟨x, y, h1, h2⟩ := seal_two (bodyS f)
  have hz : regL (encS f) = 0#16 := by unfold encS; rw [h1]; exact (sealed_iff _ _ _).1 h2
  rw [hz] at hr
  have hl := turnN_length (encS f) a t 16
  generalize turnN (encS f) a t 16 = d at hr hl
  have hl2 : 2 ≤ d.length := by rw [hl]; omega
  obtain ⟨l, x', y', rfl⟩ := snoc_two d hl2
  rw [decF_snoc, if_pos]
  intro h
  exact hr ((sealed_iff _ _ _).1 h)
end Go.Proofs.Ytogdbccfkbbcaaa
