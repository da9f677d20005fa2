/- The walks of package pack. -/
import Derived.Test.YtogdbccfkbbcaaaMem
import Derived.Test.YtogdbccfkbbcaaaBits
import Derived.Test.YtogdbccfkbbcaaaShelf
import Derived.WalkLawsBesides
namespace Go.Proofs.Ytogdbccfkbbcaaa
open Go.RowKit
theorem bitLenAux_le (f : Nat) : ∀ x, Lib.bitLenAux f x ≤ f := by
  induction f with
  | zero => intro x; simp [Lib.bitLenAux]
  | succ f ih => intro x; unfold Lib.bitLenAux; split; omega; have := ih (x / 2); omega
theorem bitLen_le (x : Nat) : Lib.bitLen x ≤ 64 := bitLenAux_le 64 x
def szS (x : Nat) : Nat := max ((Lib.bitLen x + 6) / 7) 1
theorem szS_rng (x : Nat) : 1 ≤ szS x ∧ szS x ≤ 10 := by
  have := bitLen_le x
  unfold szS
  omega
theorem len_calls (x : Nat) (hx : x < 18446744073709551616) (w : World) :
    Calls Try.prog 113 #[.int .u64 (x : Int)] w fun e w' => e = .returned (.int .i64 (Lib.bitLen x)) ∧ w = w' := by
  go_enter Try.func113, Try.ntmps113
  go_wp2_with (go_at_call 124; refine (Try.bits_Len64 (x : Int) _ (by omega) (by omega)).mono ?_; rintro e w' ⟨rfl, rfl⟩)
  go_ret
  exact ⟨by simp, rfl⟩
theorem size_calls (x : Nat) (hx : x < 18446744073709551616) (w : World) :
    Calls Try.prog 95 #[.int .u64 (x : Int)] w fun e w' => e = .returned (.int .i64 (szS x)) ∧ w = w' := by
  have hb := bitLen_le x
  go_enter Try.func95, Try.ntmps95
  go_wp2_with (go_at_call 113; refine (len_calls x hx _).mono ?_; rintro e w' ⟨rfl, rfl⟩)
  go_ret
  refine ⟨?_, rfl⟩
  show Ending.returned (.int .i64 _) = _
  congr 2
  unfold szS
  omega
/-- A varint, read: from the i-th group on, with what the groups ahead make. -/
def unvS : Nat → Nat → List UInt8 → Nat × Nat × Nat
  | i, _, [] => if i < 10 then (0, 0, 4) else (0, 0, 15)
  | i, a, c :: r =>
    if 10 ≤ i then (0, 0, 15) else if i = 9 ∧ 1 < c.toNat then (0, 0, 15) else if c.toNat = 0 ∧ 0 < i then (0, 0, 3)
    else if c.toNat < 128 then (a + c.toNat % 128 * 2 ^ (7 * i), i + 1, 0) else unvS (i + 1) (a + c.toNat % 128 * 2 ^ (7 * i)) r
theorem andNot128 : ∀ x : Fin 256, bits .andNot .u8 ((x.val : Nat) : Int) 128 = ((x.val % 128 : Nat) : Int) := by decide +kernel
theorem grp (a k : Nat) (x : UInt8) (hk : k ≤ 9) (ha : a < 2 ^ (7 * k)) (h9 : k = 9 → x.toNat ≤ 1) :
    bits .or .u64 (a : Int) (IntKind.u64.wrap (IntKind.u64.wrap (bits .andNot .u8 (x.toNat : Int) 128) * 2 ^ (7 * k))) = ((a + x.toNat % 128 * 2 ^ (7 * k) : Nat) : Int) ∧ a + x.toNat % 128 * 2 ^ (7 * k) < 2 ^ (7 * (k + 1)) := by
  have hx := x.toNat_lt
  rw [andNot128 ⟨x.toNat, hx⟩]
  have hp : (2 : Int) ^ (7 * k) = ((2 ^ (7 * k) : Nat) : Int) := by simp
  have h64 : (2 ^ (7 * k) : Nat) ≤ 2 ^ 63 := Nat.pow_le_pow_right (by omega) (by omega)
  have hb : x.toNat % 128 * 2 ^ (7 * k) < 2 ^ 64 ∧ x.toNat % 128 * 2 ^ (7 * k) ≤ 127 * 2 ^ (7 * k) ∧ a + x.toNat % 128 * 2 ^ (7 * k) < 2 ^ 64 := by
    have h1 : x.toNat % 128 * 2 ^ (7 * k) ≤ 127 * 2 ^ (7 * k) := Nat.mul_le_mul_right _ (by omega)
    refine ⟨?_, h1, ?_⟩
    · by_cases h : k = 9
      · subst h; have := h9 rfl; omega
      · have : (2 ^ (7 * k) : Nat) ≤ 2 ^ 56 := Nat.pow_le_pow_right (by omega) (by omega)
        omega
    · by_cases h : k = 9
      · subst h; have := h9 rfl; omega
      · have : (2 ^ (7 * k) : Nat) ≤ 2 ^ 56 := Nat.pow_le_pow_right (by omega) (by omega)
        omega
  refine ⟨?_, ?_⟩
  · have e : (((x.toNat % 128 : Nat) : Int) * 2 ^ (7 * k)) = ((x.toNat % 128 * 2 ^ (7 * k) : Nat) : Int) := by rw [hp]; push_cast; rfl
    simp only
    rw [wrap_u64_nat (x.toNat % 128) (by omega), e, wrap_u64_nat _ (by omega), u64_or _ _ (by omega) (by omega)]
    congr 1
    have h := Nat.two_pow_add_eq_or_of_lt (i := 7 * k) (b := a) ha (x.toNat % 128)
    rw [Nat.mul_comm (x.toNat % 128), Nat.or_comm, ← h]
    omega
  · have : (2 : Nat) ^ (7 * (k + 1)) = 128 * 2 ^ (7 * k) := by rw [show 7 * (k + 1) = 7 * k + 7 from by omega, Nat.pow_add]; omega
    omega
theorem unvS_nil (i a : Nat) (l : List UInt8) (h : l.length ≤ i) (hi : i < 10) : unvS i a (l.drop i) = (0, 0, 4) := by
  rw [List.drop_eq_nil_of_le h]; simp [unvS, hi]
theorem drop_cons {l : List UInt8} {i : Nat} {x : UInt8} (h : l[i]? = some x) : l.drop i = x :: l.drop (i + 1) := by
  obtain ⟨hi, rfl⟩ := List.getElem?_eq_some_iff.1 h
  exact List.drop_eq_getElem_cons hi
theorem unvS_ten (a : Nat) (l : List UInt8) : unvS 10 a l = (0, 0, 15) := by cases l <;> simp [unvS]
set_option maxRecDepth 100000 in
theorem unvar_calls (A : Option Addr) (l : List UInt8) (n c : Nat) (hn : l.length = n) (S : Nat → Prop) (w : World) (hl : n ≤ 9223372036854775807) (hr : Rd B8 w S A l) :
    Calls Try.prog 68 #[.slice A n c] w fun e w' => e = .returned (.tuple #[.int .u64 (unvS 0 0 l).1, .int .i64 (unvS 0 0 l).2.1, .int .i64 (unvS 0 0 l).2.2]) ∧ w = w' := by
  subst hn
  go_enter Try.func68, Try.ntmps68
  go_wp2
  go_step3
  go_wp2
  go_step3
  go_wp2
  go_loop [2, 3, 7] (fun x m i => ∃ k a : Nat, k ≤ 10 ∧ k ≤ l.length ∧ i = .int .i64 k ∧ x = .int .u64 a ∧ m = .int .i64 0 ∧ a < 2 ^ (7 * k) ∧ Hid (unvS 0 0 l = unvS k a (l.drop k))) (fun _ _ i => 10 - (intOf i).toNat)
  case atStart => exact ⟨0, 0, by omega, by omega, rfl, rfl, rfl, by decide, rfl⟩
  case round =>
    obtain ⟨k, a, hk, hkl, rfl, rfl, rfl, ha, HU⟩ := hrel
    by_cases h10 : k < 10
    · have hd : decide ((k : Int) < 10) = true := by simp; omega
      by_cases hlt : k < l.length
      · have hd2 : decide (l.length ≤ k) = false := by simp; omega
        obtain ⟨b, o, x, rfl, _, hx0, hc⟩ := hr.at_ hlt
        have HX := Lib.hid hx0
        have hc2 : w.cell? ⟨b, o + k, none⟩ = some (.int .u8 (x.toNat : Int)) := hc
        clear hx0 hc
        have hxl := x.toNat_lt
        have HA := Lib.hid ha
        clear ha
        by_cases c1 : k = 9 ∧ 1 < x.toNat
        · obtain ⟨rfl, c1⟩ := c1
          have t1 : decide (1 < (x.toNat : Int)) = true := by simp; omega
          have HE : Hid (unvS 0 0 l = (0, 0, 15)) := by
            show _ = _
            rw [HU.out, drop_cons HX.out, unvS, if_neg (by omega), if_pos (by omega)]
          go_wp2
          go_ret3
          exact ⟨by rw [HE.out]; rfl, rfl⟩
        by_cases c2 : x.toNat = 0 ∧ 0 < k
        · have t0 : ((x.toNat : Int) == 0) = true := by simp; omega
          have t1 : decide (1 < (x.toNat : Int)) = false := by simp; omega
          have t2 : decide (0 < k) = true := by simp; omega
          have t2b : 0 < k := by omega
          have HE : Hid (unvS 0 0 l = (0, 0, 3)) := by
            show _ = _
            rw [HU.out, drop_cons HX.out, unvS, if_neg (by omega), if_neg (by omega), if_pos (by omega)]
          clear c1 c2
          go_wp2
          all_goals
            go_ret3
            exact ⟨by rw [HE.out]; rfl, rfl⟩
        have HG := Lib.hid (grp a k x (by omega) HA.out (by omega))
        have T1 : (((k : Int) == 9) = false) ∨ (((k : Int) == 9) = true ∧ decide (1 < (x.toNat : Int)) = false) := by
          by_cases h : k = 9
          · right; subst h; exact ⟨rfl, by simp; omega⟩
          · left; simp; omega
        have T2 : (((x.toNat : Int) == 0) = false) ∨ (((x.toNat : Int) == 0) = true ∧ decide (0 < k) = false) := by
          by_cases h : x.toNat = 0
          · right; rw [h]; exact ⟨rfl, by simp; omega⟩
          · left; simp; omega
        by_cases c3 : x.toNat < 128
        · have t3 : decide ((x.toNat : Int) < 128) = true := by simp; omega
          have HE : Hid (unvS 0 0 l = (a + x.toNat % 128 * 2 ^ (7 * k), k + 1, 0)) := by
            show _ = _
            rw [HU.out, drop_cons HX.out, unvS, if_neg (by omega), if_neg (by omega), if_neg (by omega), if_pos c3]
          clear c1 c2 c3
          rcases T1 with T1 | ⟨T1, T1'⟩ <;> rcases T2 with T2 | ⟨T2, T2'⟩
          all_goals
            go_wp2
            go_ret3
            exact ⟨by rw [HE.out, ← HG.out.1]; rfl, rfl⟩
        · have t3 : decide ((x.toNat : Int) < 128) = false := by simp; omega
          have HE : Hid (unvS 0 0 l = unvS (k + 1) (a + x.toNat % 128 * 2 ^ (7 * k)) (l.drop (k + 1))) := by
            show _ = _
            rw [HU.out, drop_cons HX.out, unvS, if_neg (by omega), if_neg (by omega), if_neg (by omega), if_neg c3]
          clear c1 c2 c3
          rcases T1 with T1 | ⟨T1, T1'⟩ <;> rcases T2 with T2 | ⟨T2, T2'⟩
          all_goals
            go_wp2
            go_round
            case rel => exact ⟨k + 1, _, by omega, by omega, by go_num, by rw [HG.out.1], rfl, HG.out.2, HE⟩
            case measure => simp [intOf]; omega
      · have hd2 : decide (l.length ≤ k) = true := by simp; omega
        have HE : Hid (unvS 0 0 l = (0, 0, 4)) := by
          show _ = _
          rw [HU.out, unvS_nil _ _ _ (by omega) h10]
        clear ha
        go_wp2
        go_ret3
        exact ⟨by rw [HE.out]; rfl, rfl⟩
    · obtain rfl : k = 10 := by omega
      have hd : decide (((10 : Nat) : Int) < 10) = false := by decide
      have HE : Hid (unvS 0 0 l = (0, 0, 15)) := by
        show _ = _
        rw [HU.out, unvS_ten]
      clear ha
      go_wp2
      go_ret3
      exact ⟨by rw [HE.out]; rfl, rfl⟩

end Go.Proofs.Ytogdbccfkbbcaaa
