/- The walks of the reference's numbers, read: they are the program's own. -/
import Derived.Test.YtogdbccfkbbcaaaCursorR
namespace Go.Proofs.Ytogdbccfkbbcaaa
open Go.RowKit
theorem power_calls (i : Nat) (hi : i ≤ 63) (w : World) :
    Calls Try.prog 112 #[.int .i64 (i : Int)] w fun e w' => e = .returned (.int .u64 ((2 ^ i : Nat) : Int)) ∧ w = w' := by
  go_enter Try.func112, Try.ntmps112
  go_wp2
  go_loop [3, 4] (fun p n => ∃ k : Nat, k ≤ i ∧ n = .int .i64 k ∧ p = .int .u64 ((2 ^ k : Nat) : Int)) (fun _ n => i - (intOf n).toNat)
  case atStart => exact ⟨0, by omega, rfl, rfl⟩
  case round =>
    obtain ⟨k, hk, rfl, rfl⟩ := hrel
    by_cases hlt : k < i
    · have hd : decide ((k : Int) < i) = true := by simp; omega
      have hd' : decide (k < i) = true := by simp; omega
      have hpp : Hid (2 ^ (k + 1) = 2 ^ k * 2) := Nat.pow_succ 2 k
      have hpl : 2 ^ k ≤ 2 ^ 62 := Nat.pow_le_pow_right (by omega) (by omega)
      generalize 2 ^ k = P at *
      have w5 : IntKind.u64.wrap ((P : Int) * 2) = (P : Int) * 2 := by have := wrap_u64_nat (P * 2) (by omega); exact_mod_cast this
      go_wp2
      go_round
      case rel => exact ⟨k + 1, by omega, by go_num, by rw [hpp.out]; rfl⟩
      case measure => simp [intOf]; omega
    · obtain rfl : k = i := by omega
      have hd : decide ((k : Int) < k) = false := by simp
      have hd' : decide (k < k) = false := by simp
      obtain ⟨P, hP⟩ : ∃ P, 2 ^ k = P := ⟨_, rfl⟩
      have HP := Lib.hid hP
      rw [hP]
      clear hP
      go_wp2
      go_ret
      have e2 : (2 : Int) ^ k = (P : Int) := by rw [← HP.out]; simp
      exact ⟨by rw [e2]; rfl, rfl⟩
theorem rgrp (a k g : Nat) (hk : k ≤ 9) (ha : a < 2 ^ (7 * k)) (hg : g ≤ 127) (h9 : k = 9 → g ≤ 1) : g * 2 ^ (7 * k) < 18446744073709551616 ∧ a + g * 2 ^ (7 * k) < 18446744073709551616 ∧ a + g * 2 ^ (7 * k) < 2 ^ (7 * (k + 1)) := by
  have h1 : g * 2 ^ (7 * k) ≤ 127 * 2 ^ (7 * k) := Nat.mul_le_mul_right _ hg
  have h2 : (2 : Nat) ^ (7 * (k + 1)) = 128 * 2 ^ (7 * k) := by rw [show 7 * (k + 1) = 7 * k + 7 from by omega, Nat.pow_add]; omega
  refine ⟨?_, ?_, by omega⟩
  · by_cases h : k = 9
    · subst h; have := h9 rfl; omega
    · have : (2 ^ (7 * k) : Nat) ≤ 2 ^ 56 := Nat.pow_le_pow_right (by omega) (by omega)
      omega
  · by_cases h : k = 9
    · subst h; have := h9 rfl; omega
    · have : (2 ^ (7 * k) : Nat) ≤ 2 ^ 56 := Nat.pow_le_pow_right (by omega) (by omega)
      omega
set_option maxHeartbeats 1000000 in
set_option maxRecDepth 100000 in
theorem runvar_calls (A : Option Addr) (l : List UInt8) (n c : Nat) (hn : l.length = n) (S : Nat → Prop) (w : World) (hl : n ≤ 9223372036854775807) (hr : Rd B8 w S A l) :
    Calls Try.prog 92 #[.slice A n c] w fun e w' => e = .returned (.tuple #[.int .u64 (unvS 0 0 l).1, .int .i64 (unvS 0 0 l).2.1, .int .i64 (unvS 0 0 l).2.2]) ∧ w = w' := by
  subst hn
  go_enter Try.func92, Try.ntmps92
  go_wp2
  go_loop [5, 6] (fun x i => ∃ k a : Nat, k ≤ 10 ∧ k ≤ l.length ∧ i = .int .i64 k ∧ x = .int .u64 a ∧ a < 2 ^ (7 * k) ∧ Hid (unvS 0 0 l = unvS k a (l.drop k))) (fun _ i => 10 - (intOf i).toNat)
  case atStart => exact ⟨0, 0, by omega, by omega, rfl, rfl, by decide, rfl⟩
  case round =>
    obtain ⟨k, a, hk, hkl, rfl, rfl, ha, HU⟩ := hrel
    by_cases h10 : k < 10
    · have hd : decide ((k : Int) < 10) = true := by simp; omega
      by_cases hlt : k < l.length
      · have hd2 : decide ((k : Int) ≥ l.length) = false := by simp; omega
        have hd2' : decide (l.length ≤ k) = false := by simp; omega
        obtain ⟨b, o, x, rfl, _, hx0, hc⟩ := hr.at_ hlt
        have HX := Lib.hid hx0
        have hc2 : w.cell? ⟨b, o + k, none⟩ = some (.int .u8 (x.toNat : Int)) := hc
        clear hx0 hc
        have hxl := x.toNat_lt
        obtain ⟨g, hg⟩ : ∃ g, x.toNat % 128 = g := ⟨_, rfl⟩
        have t1 : (x.toNat : Int).tmod 128 = (g : Int) := by rw [Int.tmod_eq_emod_of_nonneg (by omega)]; omega
        have w1 : IntKind.u8.wrap (g : Int) = (g : Int) := wrap_u8_nat _ (by omega)
        have w2 : IntKind.u64.wrap (g : Int) = (g : Int) := wrap_u64_nat _ (by omega)
        have hgl : g ≤ 127 := by omega
        by_cases c1 : k = 9 ∧ 1 < x.toNat
        · obtain ⟨rfl, c1⟩ := c1
          have T : decide ((g : Int) > 1) = true ∨ (decide ((g : Int) > 1) = false ∧ decide ((x.toNat : Int) ≥ 128) = true) := by
            simp only [decide_eq_true_eq, decide_eq_false_iff_not]; omega
          have HE : Hid (unvS 0 0 l = (0, 0, 15)) := by
            show _ = _
            rw [HU.out, drop_cons HX.out, unvS, if_neg (by omega), if_pos (by omega)]
          clear hg ha
          rcases T with T | ⟨T, T'⟩ <;>
          · go_wp2
            go_ret3
            exact ⟨by rw [HE.out]; rfl, rfl⟩
        have h9 : k = 9 → g ≤ 1 := by omega
        obtain ⟨h11, h12, h13⟩ := rgrp a k g (by omega) ha hgl h9
        have T : ((k : Int) == 9) = false ∨ (((k : Int) == 9) = true ∧ decide ((g : Int) > 1) = false ∧ decide ((x.toNat : Int) ≥ 128) = false) := by
          simp only [beq_eq_false_iff_ne, ne_eq, beq_iff_eq, decide_eq_false_iff_not]; omega
        have H13 := Lib.hid h13
        have hpw := power_calls (7 * k) (by omega)
        have e7 : ((7 * k : Nat) : Int) = 7 * (k : Int) := by omega
        rw [e7] at hpw
        obtain ⟨P, hP⟩ : ∃ P, 2 ^ (7 * k) = P := ⟨_, rfl⟩
        rw [hP] at h11 h12 h13 H13 hpw
        have w7 : IntKind.i64.wrap (7 * (k : Int)) = 7 * (k : Int) := IntWalk.i64_in _ ⟨by omega, by omega⟩
        obtain ⟨M, hM⟩ : ∃ M, g * P = M := ⟨_, rfl⟩
        have w3 : IntKind.u64.wrap ((g : Int) * (P : Int)) = (M : Int) := by rw [← hM]; have := wrap_u64_nat (g * P) h11; rw [← this]; simp
        have w4 : IntKind.u64.wrap ((a : Int) + (M : Int)) = (a : Int) + (M : Int) := by have := wrap_u64_nat (a + M) (by omega); exact_mod_cast this
        have HP := Lib.hid hP
        have HM := Lib.hid hM
        by_cases c2 : x.toNat = 0 ∧ 0 < k
        · have hg0 : g = 0 := by omega
          have t0 : ((g : Int) == 0) = true := by simp; omega
          have t2 : decide (0 < k) = true := by simp; omega
          have t2b : 0 < k := by omega
          have t3 : decide ((x.toNat : Int) < 128) = true := by simp; omega
          have HE : Hid (unvS 0 0 l = (0, 0, 3)) := by
            show _ = _
            rw [HU.out, drop_cons HX.out, unvS, if_neg (by omega), if_neg (by omega), if_pos (by omega)]
          clear c1 c2 hg ha h11 h12 h13 h9 hP hM hg0
          rcases T with T | ⟨T, T', T''⟩ <;>
          · go_wp2_with (go_at_call 112; refine (hpw _).mono ?_; rintro e w1 ⟨rfl, rfl⟩)
            go_ret3
            exact ⟨by rw [HE.out]; rfl, rfl⟩
        by_cases c3 : x.toNat < 128
        · have t3 : decide ((x.toNat : Int) < 128) = true := by simp; omega
          have T2 : ((g : Int) == 0) = false ∨ (((g : Int) == 0) = true ∧ decide (0 < k) = false) := by
            simp only [beq_eq_false_iff_ne, ne_eq, beq_iff_eq, decide_eq_false_iff_not]; omega
          have HE : Hid (unvS 0 0 l = (a + M, k + 1, 0)) := by
            show _ = _
            rw [HU.out, drop_cons HX.out, unvS, if_neg (by omega), if_neg (by omega), if_neg (by omega), if_pos c3, hg, HP.out, HM.out]
          have w8 : IntKind.i64.wrap ((k : Int) + 1) = (k : Int) + 1 := IntWalk.i64_in _ ⟨by omega, by omega⟩
          clear c1 c2 c3 hg ha h11 h12 h13 h9 hP hM
          rcases T with T | ⟨T, T', T''⟩ <;> rcases T2 with T2 | ⟨T2, T2'⟩ <;>
          · go_wp2_with (go_at_call 112; refine (hpw _).mono ?_; rintro e w1 ⟨rfl, rfl⟩)
            go_ret3
            exact ⟨by rw [HE.out]; rfl, rfl⟩
        · have t3 : decide ((x.toNat : Int) < 128) = false := by simp; omega
          have HE : Hid (unvS 0 0 l = unvS (k + 1) (a + M) (l.drop (k + 1))) := by
            show _ = _
            rw [HU.out, drop_cons HX.out, unvS, if_neg (by omega), if_neg (by omega), if_neg (by omega), if_neg c3, hg, HP.out, HM.out]
          have T' : ((k : Int) == 9) = false := by simp; omega
          clear T c1 c2 c3 hg ha h11 h12 h13 h9 hP hM
          go_wp2_with (go_at_call 112; refine (hpw _).mono ?_; rintro e w1 ⟨rfl, rfl⟩)
          go_round
          case rel => exact ⟨k + 1, a + M, by omega, by omega, by go_num, rfl, by rw [← HM.out]; exact H13.out, HE⟩
          case measure => simp [intOf]; omega
      · have hd2 : decide ((k : Int) ≥ l.length) = true := by simp; omega
        have hd2' : decide (l.length ≤ k) = true := by simp; omega
        have HE : Hid (unvS 0 0 l = (0, 0, 4)) := by
          show _ = _
          rw [HU.out, unvS_nil _ _ _ (by omega) h10]
        clear ha
        go_wp2
        go_ret3
        exact ⟨by rw [HE.out]; rfl, rfl⟩
    · obtain rfl : k = 10 := by omega
      have hd : decide (((10 : Nat) : Int) < 10) = false := by decide
      have HE : Hid (unvS 0 0 l = (0, 0, 15)) := by
        show _ = _
        rw [HU.out, unvS_ten]
      clear ha
      go_wp2
      go_ret3
      exact ⟨by rw [HE.out]; rfl, rfl⟩
end Go.Proofs.Ytogdbccfkbbcaaa
