/- The walk of the reference's 'num'. -/
import Derived.Test.YtogdbccfkbbcaaaRefUn
import Derived.Test.YtogdbccfkbbcaaaCursorB
namespace Go.Proofs.Ytogdbccfkbbcaaa
open Go.RowKit
set_option linter.unusedSimpArgs false
set_option maxRecDepth 100000 in
theorem rnum_calls (most : Nat) (A : Option Addr) (l : List UInt8) (n c : Nat) (hn : l.length = n) (hnc : n ≤ c) (S : Nat → Prop) (w : World) (hl : n ≤ 9223372036854775807) (hr : Rd B8 w S A l) :
    Calls Try.prog 77 #[.slice A n c, .int .u64 (most : Int)] w fun e w' => ∃ (A' : Option Addr) (n' c' X : Nat), e = .returned (.tuple #[.int .u64 (X : Int), .slice A' n' c', .int .i64 ((numR most 0 l).2.1 : Int)]) ∧
      ((numR most 0 l).2.1 = 0 → X = (numR most 0 l).1 ∧ n' = (numR most 0 l).2.2.length ∧ n' ≤ c' ∧ Rd B8 w S A' (numR most 0 l).2.2) ∧ ∃ k, w' = w.drewN k := by
  obtain ⟨f1, f2, f3⟩ := unvS_facts l 0 0
  have hu := fun W (h : Rd B8 W S A l) => runvar_calls A l n c hn S W hl h
  obtain ⟨x, hx⟩ : ∃ x, (unvS 0 0 l).1 = x := ⟨_, rfl⟩
  obtain ⟨k, hk⟩ : ∃ k, (unvS 0 0 l).2.1 = k := ⟨_, rfl⟩
  obtain ⟨e, he⟩ : ∃ e, (unvS 0 0 l).2.2 = e := ⟨_, rfl⟩
  have hnR : numR most 0 l = if e ≠ 0 then (0, e, []) else if most < x then (0, 2, []) else (x, 0, l.drop k) := by
    unfold numR; rw [if_neg (by omega), hx, hk, he]
  rw [hx, hk, he] at hu
  rw [hk, he, Nat.zero_add] at f2
  rw [hx, hk, he] at f3
  rw [hnR]
  clear hnR f1
  by_cases h0 : e = 0
  · subst h0
    obtain ⟨_, h2, _⟩ := f2 rfl
    have hkn : k ≤ n := by omega
    clear f2 f3 h2
    rw [if_neg (by simp)]
    have ht : (((0 : Nat) : Int) == 0) = true := by simp
    by_cases hm : most < x
    · rw [if_pos hm]
      have hd : decide ((x : Int) > (most : Int)) = true := by simp; omega
      have hd' : decide (most < x) = true := by simp; omega
      clear hm
      go_enter Try.func77, Try.ntmps77
      go_wp2_with fail
      refine (hu _ hr).mono ?_
      rintro r w1 ⟨rfl, rfl⟩
      go_wp2
      go_ret3
      exact ⟨none, 0, 0, 0, rfl, fun h => absurd h (by decide), 0, rfl⟩
    · rw [if_neg hm]
      have hd : decide ((x : Int) > (most : Int)) = false := by simp; omega
      have hd' : decide (most < x) = false := by simp; omega
      have i1 : (k : Int) ≤ (n : Int) := by omega
      have i2 : (n : Int) ≤ (c : Int) := by omega
      clear hm
      go_enter Try.func77, Try.ntmps77
      go_wp2_with fail
      refine (hu _ hr).mono ?_
      rintro r w1 ⟨rfl, rfl⟩
      go_wp2_with fail
      go_quiet (fail)
      have hln : (l.drop k).length = n - k := by rw [List.length_drop, hn]
      have hrd := Lib.hid (hr.drop k)
      have hr0 : Hid (c = k → Rd B8 w S A (l.drop k)) := fun h => by
        have : l.drop k = [] := List.eq_nil_of_length_eq_zero (by omega)
        rw [this]; exact Rd.nil
      go_wp2
      all_goals go_ret3
      · exact ⟨_, _, _, _, rfl, ⟨rfl, rfl, by omega, hr0.out (by omega)⟩, nq, rfl⟩
      · exact ⟨_, _, _, _, rfl, ⟨rfl, rfl, by omega, hrd.out⟩, nq, rfl⟩
  · rw [if_pos h0]
    obtain ⟨g1, g2⟩ := f3 h0
    subst g1
    subst g2
    have ht : ((e : Int) == 0) = false := by simp; omega
    have i1 : (0 : Int) ≤ (n : Int) := by omega
    have i2 : (n : Int) ≤ (c : Int) := by omega
    clear f2 f3
    go_enter Try.func77, Try.ntmps77
    go_wp2_with fail
    refine (hu _ hr).mono ?_
    rintro r w1 ⟨rfl, rfl⟩
    go_wp2_with fail
    go_quiet (fail)
    go_wp2
    go_ret3
    exact ⟨_, _, _, _, rfl, fun h => absurd h h0, nq, rfl⟩
end Go.Proofs.Ytogdbccfkbbcaaa
