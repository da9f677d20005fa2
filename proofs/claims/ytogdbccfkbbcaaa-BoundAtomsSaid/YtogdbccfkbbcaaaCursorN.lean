/- The walks of package wire: numbers and bytes that a cursor reads. -/
import Derived.Test.YtogdbccfkbbcaaaCursorR
namespace Go.Proofs.Ytogdbccfkbbcaaa
open Go.RowKit
variable {D : Nat}
theorem unvS_facts (l : List UInt8) : ∀ i a, ((unvS i a l).2.2 = 0 ∨ (unvS i a l).2.2 = 3 ∨ (unvS i a l).2.2 = 4 ∨ (unvS i a l).2.2 = 15) ∧ ((unvS i a l).2.2 = 0 → i < (unvS i a l).2.1 ∧ (unvS i a l).2.1 ≤ i + l.length ∧ (unvS i a l).2.1 ≤ 10) ∧ ((unvS i a l).2.2 ≠ 0 → (unvS i a l).1 = 0 ∧ (unvS i a l).2.1 = 0) := by
  induction l with
  | nil => intro i a; unfold unvS; split <;> simp
  | cons c r ih =>
    intro i a
    unfold unvS
    split
    · simp
    split
    · simp
    split
    · simp
    split
    · simp; omega
    · obtain ⟨h1, h2, h3⟩ := ih (i + 1) (a + c.toNat % 128 * 2 ^ (7 * i))
      refine ⟨h1, fun h => ?_, h3⟩
      have := h2 h
      simp only [List.length_cons]
      omega
theorem numR_zero (most : Nat) (l : List UInt8) (h : (numR most 0 l).2.1 ≠ 0) : (numR most 0 l).1 = 0 := by
  unfold numR at h ⊢
  rw [if_neg (by omega)] at h ⊢
  split
  · rfl
  · rename_i h1
    rw [if_neg h1] at h
    split
    · rfl
    · rename_i h2
      rw [if_neg h2] at h
      exact absurd rfl h
set_option maxRecDepth 100000 in
theorem num1_calls (p q most : Nat) (l : List UInt8) (w : World) (hc : Cur w D p 0 l) (hq : w.cell? ⟨q, 0, none⟩ = some (.int .u64 (most : Int))) :
    Calls Try.prog 67 #[.pointer (some ⟨p, 0, none⟩), .pointer (some ⟨q, 0, none⟩)] w fun e w' => ∃ x : Nat, e = .returned (.int .u64 (x : Int)) ∧ ((numR most 0 l).2.1 = 0 → x = (numR most 0 l).1) ∧ Cur w' D p (numR most 0 l).2.1 (numR most 0 l).2.2 ∧ w.grownBy w' (some p) := by
  obtain ⟨f1, f2, f3⟩ := unvS_facts l 0 0
  have hcc := hc
  obtain ⟨A, c, hb, h1, h2, hr⟩ := hc
  have hc1 := hb.cell 1
  simp at hc1
  by_cases he : (unvS 0 0 l).2.2 = 0
  · have ht : (((unvS 0 0 l).2.2 : Int) != 0) = false := by simp; omega
    by_cases hm : most < (unvS 0 0 l).1
    · have hd : decide ((most : Int) < (unvS 0 0 l).1) = true := by simp; omega
      have hd' : decide (most < (unvS 0 0 l).1) = true := by simp; omega
      have hR : Hid (numR most 0 l = (0, 2, [])) := by
        show _ = _
        unfold numR; rw [if_neg (by omega), if_neg (by omega), if_pos hm]
      clear f1 f2 f3 he hm
      go_enter Try.func67, Try.ntmps67
      go_wp2_with fail
      refine (unvar_calls A l l.length c rfl _ _ (by omega) hr).mono ?_
      rintro e w1 ⟨rfl, rfl⟩
      go_wp2_with fail
      refine (err_calls p 2 l _ (by omega) (by omega) hcc).mono ?_
      rintro e w1 ⟨rfl, hc2, hg⟩
      have HG := Lib.hid hg
      clear hg
      go_wp2
      go_ret
      exact ⟨_, rfl, by rw [hR.out]; simp, by rw [hR.out]; exact hc2, HG.out⟩
    · have hd : decide ((most : Int) < (unvS 0 0 l).1) = false := by simp; omega
      have hd' : decide (most < (unvS 0 0 l).1) = false := by simp; omega
      have hR : Hid (numR most 0 l = ((unvS 0 0 l).1, 0, l.drop (unvS 0 0 l).2.1)) := by
        show _ = _
        unfold numR; rw [if_neg (by omega), if_neg (by omega), if_neg hm]
      have hn := (f2 he).2.1
      clear f1 f2 f3 he hm
      go_enter Try.func67, Try.ntmps67
      go_wp2_with fail
      refine (unvar_calls A l l.length c rfl _ _ (by omega) hr).mono ?_
      rintro e w1 ⟨rfl, rfl⟩
      go_wp2_with fail
      refine (take_calls p (unvS 0 0 l).2.1 l _ (by omega) hcc).mono ?_
      rintro e w1 ⟨A', rfl, _, hc2, hg⟩
      have HG := Lib.hid hg
      clear hg
      go_wp2
      go_ret
      exact ⟨_, rfl, fun _ => by rw [hR.out], by rw [hR.out]; exact hc2, HG.out⟩
  · have ht : (((unvS 0 0 l).2.2 : Int) != 0) = true := by simp; omega
    have hR : Hid (numR most 0 l = (0, (unvS 0 0 l).2.2, [])) := by
      show _ = _
      unfold numR; rw [if_neg (by omega), if_pos he]
    have hb1 : 0 < (unvS 0 0 l).2.2 := by omega
    have hb2 : (unvS 0 0 l).2.2 < 100 := by omega
    have hx : Hid (0 < (unvS 0 0 l).2.2) := hb1
    clear f1 f2 f3 he
    go_enter Try.func67, Try.ntmps67
    go_wp2_with fail
    refine (unvar_calls A l l.length c rfl _ _ (by omega) hr).mono ?_
    rintro e w1 ⟨rfl, rfl⟩
    go_wp2_with fail
    refine (err_calls p (unvS 0 0 l).2.2 l _ hb1 hb2 hcc).mono ?_
    rintro e w1 ⟨rfl, hc2, hg⟩
    have HG := Lib.hid hg
    clear hg
    go_wp2
    go_ret
    exact ⟨_, rfl, by rw [hR.out]; intro h; have := hx.out; simp only at h; omega, by rw [hR.out]; exact hc2, HG.out⟩
theorem once_u64_bad (p e : Nat) (l : List UInt8) (f : Value) (w : World) (he : 0 < e) (hc : Cur w D p e l) :
    Calls Try.prog 66 #[.pointer (some ⟨p, 0, none⟩), f] w fun e' w' => e' = .returned (.int .u64 0) ∧ w = w' := by
  have ht : ((e : Int) == 0) = false := by simp; omega
  go_enter Try.func66, Try.ntmps66
  go_wp2_with fail
  refine (well_calls p e l _ hc).mono ?_
  rintro e1 w1 ⟨rfl, rfl⟩
  go_wp2
  go_ret
  exact ⟨rfl, rfl⟩
theorem once_u64_calls (p q most : Nat) (l : List UInt8) (w : World) (hc : Cur w D p 0 l) (hq : w.cell? ⟨q, 0, none⟩ = some (.int .u64 (most : Int))) :
    Calls Try.prog 66 #[.pointer (some ⟨p, 0, none⟩), .func (.func 67) #[] #[.pointer (some ⟨q, 0, none⟩)]] w fun e w' => e = .returned (.int .u64 ((numR most 0 l).1 : Int)) ∧ Cur w' D p (numR most 0 l).2.1 (numR most 0 l).2.2 ∧ w.grownBy w' (some p) := by
  have HZ := Lib.hid (numR_zero most l)
  go_enter Try.func66, Try.ntmps66
  go_wp2_with fail
  refine (well_calls p 0 l _ hc).mono ?_
  rintro e1 w1 ⟨rfl, rfl⟩
  go_wp2_with fail
  refine (num1_calls p q most l _ hc hq).mono ?_
  rintro e w1 ⟨x, rfl, hx, hc1, hg⟩
  have HG := Lib.hid hg
  have HX := Lib.hid hx
  clear hg hx
  go_wp2_with fail
  refine (well_calls p _ _ _ hc1).mono ?_
  rintro e1 w2 ⟨rfl, rfl⟩
  by_cases he : (numR most 0 l).2.1 = 0
  · have ht : (((numR most 0 l).2.1 : Int) == 0) = true := by simp; omega
    have hxe := HX.out he
    subst hxe
    clear he
    go_wp2
    go_ret
    exact ⟨rfl, hc1, HG.out⟩
  · have ht : (((numR most 0 l).2.1 : Int) == 0) = false := by simp; omega
    have hz := Lib.hid (HZ.out he)
    clear he
    go_wp2
    go_ret
    exact ⟨by rw [hz.out]; rfl, hc1, HG.out⟩
theorem num_reads (p e most : Nat) (l : List UInt8) (w : World) (hc : Cur w D p e l) :
    Calls Try.prog 30 #[.pointer (some ⟨p, 0, none⟩), .int .u64 (most : Int)] w fun e' w' => e' = .returned (.int .u64 ((numR most e l).1 : Int)) ∧ Cur w' D p (numR most e l).2.1 (numR most e l).2.2 ∧ w.grownBy w' (some p) := by
  have hB : Below w.heap.size w (w.alloc (.cells #[.int .u64 (most : Int)] 28)) := (Below.refl _ _).alloc (Nat.le_refl _) _
  have hc1 := hc.below hB
  have hq := (Blk.new w 28 #[.int .u64 (most : Int)]).cell 0
  by_cases he : e = 0
  · subst he
    have H := Lib.hid (once_u64_calls p w.heap.size most l _ hc1 hq)
    go_enter Try.func30, Try.ntmps30
    go_wp2_with fail
    refine H.out.mono ?_
    rintro e w1 ⟨rfl, hc2, hg⟩
    have HG := Lib.hid ((grown_of_below hB (some p)).trans hg)
    clear hg hB hq
    go_wp2
    go_ret
    exact ⟨rfl, hc2, HG.out⟩
  · have hb : numR most e l = (0, e, l) := by unfold numR; rw [if_pos he]
    rw [hb]
    have H := Lib.hid (once_u64_bad p e l (.func (.func 67) #[] #[.pointer (some ⟨w.heap.size, 0, none⟩)]) _ (by omega) hc1)
    have HG := Lib.hid (grown_of_below hB (some p))
    clear hb hq hB
    go_enter Try.func30, Try.ntmps30
    go_wp2_with fail
    refine H.out.mono ?_
    rintro e w1 ⟨rfl, rfl⟩
    go_wp2
    go_ret
    exact ⟨rfl, hc1, HG.out⟩
end Go.Proofs.Ytogdbccfkbbcaaa
