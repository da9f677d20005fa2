/- Plain laws: numbers and bytes, written and read. -/
import Derived.Test.YtogdbccfkbbcaaaVarW
import Derived.Test.YtogdbccfkbbcaaaCursorB
namespace Go.Proofs.Ytogdbccfkbbcaaa
open Go.RowKit
theorem bitLenAux_spec (f : Nat) : ∀ x, x < 2 ^ f → x < 2 ^ Lib.bitLenAux f x ∧ (0 < x → 2 ^ (Lib.bitLenAux f x - 1) ≤ x ∧ 0 < Lib.bitLenAux f x) := by
  induction f with
  | zero => intro x h; simp [Lib.bitLenAux]; omega
  | succ f ih =>
    intro x h
    unfold Lib.bitLenAux
    by_cases h0 : x = 0
    · rw [if_pos h0]; subst h0; simp
    · rw [if_neg h0]
      have hx : x / 2 < 2 ^ f := by rw [Nat.pow_succ] at h; omega
      obtain ⟨h1, h2⟩ := ih (x / 2) hx
      refine ⟨?_, fun _ => ⟨?_, by omega⟩⟩
      · rw [Nat.add_comm, Nat.pow_succ]; omega
      · by_cases h3 : 0 < x / 2
        · obtain ⟨h4, h5⟩ := h2 h3
          rw [show 1 + Lib.bitLenAux f (x / 2) - 1 = (Lib.bitLenAux f (x / 2) - 1) + 1 from by omega, Nat.pow_succ]
          omega
        · have h6 : x / 2 = 0 := by omega
          rw [h6]
          have : Lib.bitLenAux f 0 = 0 := by cases f <;> simp [Lib.bitLenAux]
          rw [this]; simp; omega
theorem pow_lt_iff {a b : Nat} (h : 2 ^ a < 2 ^ b) : a < b := (Nat.pow_lt_pow_iff_right (by omega)).1 h
/-- How many groups: just these. -/
theorem szS_spec (x : Nat) (hx : x < 18446744073709551616) : x < 2 ^ (7 * szS x) ∧ (szS x = 1 ∨ 2 ^ (7 * (szS x - 1)) ≤ x) := by
  obtain ⟨h1, h2⟩ := bitLenAux_spec 64 x (by omega)
  have hd : Lib.bitLen x = Lib.bitLenAux 64 x := rfl
  rw [← hd] at h1 h2
  have hs : Lib.bitLen x ≤ 7 * szS x ∧ (szS x = 1 ∨ 7 * (szS x - 1) ≤ Lib.bitLen x - 1) := by unfold szS; omega
  refine ⟨Nat.lt_of_lt_of_le h1 (Nat.pow_le_pow_right (by omega) hs.1), ?_⟩
  rcases hs.2 with h | h
  · exact .inl h
  · by_cases h0 : 0 < x
    · exact .inr (Nat.le_trans (Nat.pow_le_pow_right (by omega) h) (h2 h0).1)
    · left
      have : x = 0 := by omega
      subst this
      decide
theorem szS_unique (x m : Nat) (hx : x < 18446744073709551616) (hm : 1 ≤ m) (h1 : x < 2 ^ (7 * m)) (h2 : m = 1 ∨ 2 ^ (7 * (m - 1)) ≤ x) : szS x = m := by
  obtain ⟨h3, h4⟩ := szS_spec x hx
  have h5 := szS_rng x
  rcases Nat.lt_trichotomy (szS x) m with h | h | h
  · rcases h2 with h2 | h2
    · omega
    · have := pow_lt_iff (Nat.lt_of_le_of_lt h2 h3); omega
  · exact h
  · rcases h4 with h4 | h4
    · omega
    · have := pow_lt_iff (Nat.lt_of_le_of_lt h4 h1); omega
theorem mod_step (x i : Nat) : x % 2 ^ (7 * i) + x / 2 ^ (7 * i) % 128 * 2 ^ (7 * i) = x % 2 ^ (7 * (i + 1)) := by
  rw [show 7 * (i + 1) = 7 * i + 7 from by omega, Nat.pow_add, Nat.mod_mul]
  rw [Nat.mul_comm (2 ^ (7 * i)) (x / 2 ^ (7 * i) % 2 ^ 7)]
/-- A varint, read back. -/
theorem unvS_var (x : Nat) (hx : x < 18446744073709551616) (r : List UInt8) (d : Nat) : ∀ i, i + d + 1 = szS x → unvS i (x % 2 ^ (7 * i)) ((List.range' i (d + 1)).map (vb x (szS x)) ++ r) = (x, szS x, 0) := by
  obtain ⟨h1, h2⟩ := szS_spec x hx
  have h3 := szS_rng x
  induction d with
  | zero =>
    intro i hi
    have hv := vb_val x (szS x) i
    rw [if_neg (by omega)] at hv
    have hlt : x / 2 ^ (7 * i) < 128 := by
      rw [Nat.div_lt_iff_lt_mul (Nat.two_pow_pos _), show 128 = 2 ^ 7 from rfl, ← Nat.pow_add]
      rw [show 7 + 7 * i = 7 * szS x from by omega]
      exact h1
    show unvS i _ (vb x (szS x) i :: ([] ++ r)) = _
    unfold unvS
    have h9 : ¬ (i = 9 ∧ 1 < (vb x (szS x) i).toNat) := by
      rintro ⟨rfl, h⟩
      rw [hv] at h
      have : x / 2 ^ (7 * 9) ≤ 1 := by
        have : x < 2 * 2 ^ 63 := by omega
        have := (Nat.div_lt_iff_lt_mul (x := x) (y := 2) (k := 2 ^ 63) (by decide)).2 this
        show x / 2 ^ 63 ≤ 1
        omega
      omega
    have h0 : ¬ ((vb x (szS x) i).toNat = 0 ∧ 0 < i) := by
      rintro ⟨h, hi0⟩
      rw [hv] at h
      rcases h2 with h2 | h2
      · omega
      · have : 1 ≤ x / 2 ^ (7 * i) := by
          rw [Nat.le_div_iff_mul_le (Nat.two_pow_pos _), Nat.one_mul]
          rw [show szS x - 1 = i from by omega] at h2
          exact h2
        omega
    rw [if_neg (by omega), if_neg h9, if_neg h0, if_pos (by omega)]
    have e : (vb x (szS x) i).toNat % 128 = x / 2 ^ (7 * i) % 128 := by omega
    rw [e, mod_step, show i + 1 = szS x from by omega, Nat.mod_eq_of_lt h1]
  | succ d ih =>
    intro i hi
    have hv := vb_val x (szS x) i
    rw [if_pos (by omega)] at hv
    rw [List.range'_succ]
    show unvS i _ (vb x (szS x) i :: ((List.range' (i + 1) (d + 1)).map (vb x (szS x)) ++ r)) = _
    unfold unvS
    rw [if_neg (by omega), if_neg (by omega), if_neg (by omega), if_neg (by omega)]
    have e : (vb x (szS x) i).toNat % 128 = x / 2 ^ (7 * i) % 128 := by omega
    rw [e, mod_step]
    exact ih (i + 1) (by omega)
theorem unvS_varL (x : Nat) (hx : x < 18446744073709551616) (r : List UInt8) : unvS 0 0 (varL x ++ r) = (x, szS x, 0) := by
  have h3 := szS_rng x
  have h := unvS_var x hx r (szS x - 1) 0 (by omega)
  rw [show szS x - 1 + 1 = szS x from by omega, Nat.mul_zero, Nat.pow_zero, Nat.mod_one] at h
  rw [varL, List.range_eq_range']
  exact h
theorem vb_of (x n i : Nat) (c : UInt8) (h : c.toNat = x / 2 ^ (7 * i) % 128 + if i + 1 < n then 128 else 0) : c = vb x n i := by
  apply UInt8.toNat_inj.1
  rw [vb_val, h]
/-- What is read as a number is that number's varint. -/
theorem unvS_inv (l : List UInt8) : ∀ i a x n, a < 2 ^ (7 * i) → unvS i a l = (x, n, 0) →
    i < n ∧ n ≤ 10 ∧ n - i ≤ l.length ∧ x % 2 ^ (7 * i) = a ∧ x < 2 ^ (7 * n) ∧ x < 18446744073709551616 ∧ (n = 1 ∨ 2 ^ (7 * (n - 1)) ≤ x) ∧ l.take (n - i) = (List.range' i (n - i)).map (vb x n) := by
  induction l with
  | nil => intro i a x n _ h; unfold unvS at h; split at h <;> simp at h
  | cons c r ih =>
    intro i a x n ha h
    unfold unvS at h
    by_cases k1 : 10 ≤ i
    · rw [if_pos k1] at h; simp at h
    rw [if_neg k1] at h
    by_cases k2 : i = 9 ∧ 1 < c.toNat
    · rw [if_pos k2] at h; simp at h
    rw [if_neg k2] at h
    by_cases k3 : c.toNat = 0 ∧ 0 < i
    · rw [if_pos k3] at h; simp at h
    rw [if_neg k3] at h
    have hp : 0 < 2 ^ (7 * i) := Nat.two_pow_pos _
    have hp7 : 2 ^ (7 * (i + 1)) = 128 * 2 ^ (7 * i) := by rw [show 7 * (i + 1) = 7 * i + 7 from by omega, Nat.pow_add]; omega
    have hc := c.toNat_lt
    by_cases k4 : c.toNat < 128
    · rw [if_pos k4] at h
      simp only [Prod.mk.injEq, and_true] at h
      obtain ⟨rfl, rfl⟩ := h
      have e : c.toNat % 128 = c.toNat := by omega
      rw [e]
      have h1 : (a + c.toNat * 2 ^ (7 * i)) % 2 ^ (7 * i) = a := by rw [Nat.add_mul_mod_self_right, Nat.mod_eq_of_lt ha]
      have h2 : (a + c.toNat * 2 ^ (7 * i)) / 2 ^ (7 * i) = c.toNat := by rw [Nat.add_mul_div_right _ _ hp, Nat.div_eq_of_lt ha]; omega
      have hle : c.toNat * 2 ^ (7 * i) ≤ 127 * 2 ^ (7 * i) := Nat.mul_le_mul_right _ (by omega)
      refine ⟨by omega, by omega, by simp, h1, by omega, ?_, ?_, ?_⟩
      · by_cases h9 : i = 9
        · subst h9
          have : c.toNat ≤ 1 := by omega
          have : c.toNat * 2 ^ (7 * 9) ≤ 1 * 2 ^ (7 * 9) := Nat.mul_le_mul_right _ this
          omega
        · have : (2 ^ (7 * i) : Nat) ≤ 2 ^ 56 := Nat.pow_le_pow_right (by omega) (by omega)
          omega
      · by_cases hi : i = 0
        · left; omega
        · right
          have : 1 ≤ c.toNat := by omega
          have : 1 * 2 ^ (7 * i) ≤ c.toNat * 2 ^ (7 * i) := Nat.mul_le_mul_right _ this
          rw [show i + 1 - 1 = i from by omega]
          omega
      · rw [show i + 1 - i = 1 from by omega]
        show [c] = [vb _ (i + 1) i]
        congr 1
        apply vb_of
        rw [h2, if_neg (by omega)]
        omega
    · rw [if_neg k4] at h
      have ha' : a + c.toNat % 128 * 2 ^ (7 * i) < 2 ^ (7 * (i + 1)) := by
        have : c.toNat % 128 * 2 ^ (7 * i) ≤ 127 * 2 ^ (7 * i) := Nat.mul_le_mul_right _ (by omega)
        omega
      obtain ⟨g1, g2, g3, g4, g5, g6, g7, g8⟩ := ih (i + 1) _ x n ha' h
      have hm := mod_step x i
      rw [g4] at hm
      have hxa : x % 2 ^ (7 * i) = a := by
        have : x % 2 ^ (7 * i) = (x % 2 ^ (7 * (i + 1))) % 2 ^ (7 * i) := by
          rw [hp7, Nat.mod_mod_of_dvd _ (Nat.dvd_mul_left _ _)]
        rw [this, g4, Nat.add_mul_mod_self_right, Nat.mod_eq_of_lt ha]
      have hxd : x / 2 ^ (7 * i) % 128 = c.toNat % 128 := by
        rw [hxa] at hm
        have h5 : x / 2 ^ (7 * i) % 128 * 2 ^ (7 * i) = c.toNat % 128 * 2 ^ (7 * i) := by omega
        exact Nat.eq_of_mul_eq_mul_right hp h5
      refine ⟨by omega, g2, by simp only [List.length_cons]; omega, hxa, g5, g6, g7, ?_⟩
      rw [show n - i = (n - (i + 1)) + 1 from by omega, List.take_succ_cons, g8, List.range'_succ, List.map_cons]
      congr 1
      apply vb_of
      rw [hxd, if_pos (by omega)]
      omega
theorem unvS_ok (l : List UInt8) (x n : Nat) (h : unvS 0 0 l = (x, n, 0)) : x < 18446744073709551616 ∧ n = szS x ∧ l = varL x ++ l.drop n := by
  obtain ⟨h1, h2, h3, h4, h5, h6, h7, h8⟩ := unvS_inv l 0 0 x n (by simp) h
  have hn := szS_unique x n h6 (by omega) h5 h7
  refine ⟨h6, hn.symm, ?_⟩
  rw [Nat.sub_zero] at h8
  have : varL x = l.take n := by rw [h8, varL, hn, List.range_eq_range']
  rw [this, List.take_append_drop]
end Go.Proofs.Ytogdbccfkbbcaaa
