/- The walk of the reference's varint: it is the program's own. -/
import Derived.Test.YtogdbccfkbbcaaaWireLaw
import Derived.Laws.OwnMore
namespace Go.Proofs.Ytogdbccfkbbcaaa
open Go.RowKit
theorem varL_low (x : Nat) (h : x < 128) : varL x = [UInt8.ofNat x] := by
  have hs : szS x = 1 := szS_unique x 1 (by omega) (by omega) (by omega) (.inl rfl)
  unfold varL vb
  rw [hs]
  simp
  rw [Nat.mod_eq_of_lt h]
theorem szS_high (x : Nat) (h : 128 ≤ x) (hx : x < 18446744073709551616) : szS x = szS (x / 128) + 1 := by
  have h1 := Lib.bitLen_shift 7 x h hx
  have e : (2 : Nat) ^ 7 = 128 := rfl
  rw [e] at h1
  have h2 := Lib.bitLen_half (x / 128) (by omega) (by omega)
  unfold szS
  omega
theorem varL_high (x : Nat) (h : 128 ≤ x) (hx : x < 18446744073709551616) : varL x = UInt8.ofNat (128 + x % 128) :: varL (x / 128) := by
  have hs := szS_high x h hx
  have hr := szS_rng (x / 128)
  unfold varL
  rw [hs, List.range_succ_eq_map, List.map_cons, List.map_map]
  congr 1
  · unfold vb
    rw [if_pos (by omega)]
    congr 1
    simp
    omega
  · apply List.map_congr_left
    intro i hi
    show vb x (szS (x / 128) + 1) (i + 1) = vb (x / 128) (szS (x / 128)) i
    unfold vb
    have e : x / 2 ^ (7 * (i + 1)) = x / 128 / 2 ^ (7 * i) := by
      rw [Nat.div_div_eq_div_mul, show 7 * (i + 1) = 7 + 7 * i from by omega, Nat.pow_add]
    rw [e]
    congr 2
    by_cases h1 : i + 1 < szS (x / 128)
    · rw [if_pos h1, if_pos (by omega)]
    · rw [if_neg h1, if_neg (by omega)]
set_option maxRecDepth 100000 in
theorem rvar_calls (k : Nat) : ∀ (x : Nat) (w : World), x < 18446744073709551616 → x < 2 ^ (7 * k + 7) →
    Calls Try.prog 48 #[.int .u64 (x : Int)] w fun e w' => ∃ A c, e = .returned (.slice A (szS x) c) ∧ szS x ≤ c ∧ Rd B8 w' (fun b => w.heap.size ≤ b) A (varL x) ∧ Below w.heap.size w w' := by
  obtain ⟨i0, hi, hz0, hz1, hz2⟩ := info_parts info5
  have low : ∀ (x : Nat) (w : World), x < 128 → Calls Try.prog 48 #[.int .u64 (x : Int)] w fun e w' => ∃ A c, e = .returned (.slice A (szS x) c) ∧ szS x ≤ c ∧ Rd B8 w' (fun b => w.heap.size ≤ b) A (varL x) ∧ Below w.heap.size w w' := by
    intro x w h
    have hd : decide ((x : Int) < 128) = true := by simp; omega
    have hs : szS x = 1 := szS_unique x 1 (by omega) (by omega) (by omega) (.inl rfl)
    have hv := varL_low x h
    have wv : IntKind.u8.wrap (x : Int) = (x : Int) := wrap_u8_nat _ (by omega)
    rw [hs, hv]
    clear hs hv
    go_enter Try.func48, Try.ntmps48
    go_wp2
    go_ret
    refine ⟨_, _, rfl, Nat.le_refl _, ?_, (Below.refl _ _).alloc (Nat.le_refl _) _⟩
    refine Rd.blk (t := 5) (g := w.heap.size) ?_ (Nat.le_refl _)
    have e : B8 (UInt8.ofNat x) = .int .u8 (x : Int) := by unfold B8; rw [UInt8.toNat_ofNat', Nat.mod_eq_of_lt (by omega)]
    simp only [List.map_cons, List.map_nil, e]
    exact Blk.new _ _ _
  induction k with
  | zero => intro x w _ h; exact low x w (by omega)
  | succ k ih =>
    intro x w hx h
    by_cases hlo : x < 128
    · exact low x w hlo
    · have hd : decide ((x : Int) < 128) = false := by simp; omega
      have hs := szS_high x (by omega) hx
      have hv := varL_high x (by omega) hx
      rw [hs, hv]
      obtain ⟨q, hq⟩ : ∃ q, x / 128 = q := ⟨_, rfl⟩
      obtain ⟨r, hr⟩ : ∃ r, x % 128 = r := ⟨_, rfl⟩
      have hql : q < 2 ^ (7 * k + 7) := by
        rw [← hq]
        apply Nat.div_lt_of_lt_mul
        rw [show 7 * (k + 1) + 7 = 7 * k + 7 + 7 from by omega, Nat.pow_add 2 (7 * k + 7) 7] at h
        omega
      have hI := ih q
      have hz := szS_rng q
      rw [hq, hr]
      have t1 : (x : Int).tmod 128 = (r : Int) := by rw [Int.tmod_eq_emod_of_nonneg (by omega)]; omega
      have t2 : (x : Int).tdiv 128 = (q : Int) := by rw [Int.tdiv_eq_ediv_of_nonneg (by omega)]; omega
      have w1 : IntKind.u64.wrap (r : Int) = (r : Int) := wrap_u64_nat _ (by omega)
      have w2 : IntKind.u64.wrap (q : Int) = (q : Int) := wrap_u64_nat _ (by omega)
      have w3 : IntKind.u64.wrap (128 + (r : Int)) = 128 + (r : Int) := by have := wrap_u64_nat (128 + r) (by omega); exact this
      have w4 : IntKind.u8.wrap (128 + (r : Int)) = 128 + (r : Int) := by have := wrap_u8_nat (128 + r) (by omega); exact this
      have hB : B8 (UInt8.ofNat (128 + r)) = .int .u8 (128 + (r : Int)) := by unfold B8; rw [UInt8.toNat_ofNat', Nat.mod_eq_of_lt (by omega)]; rfl
      have HI := hI (w.alloc (.cells #[.int .u8 (128 + (r : Int))] 5)) (by omega) hql
      clear ih hs hv h low hI hql
      go_enter Try.func48, Try.ntmps48
      go_wp2_with fail
      refine HI.mono ?_
      rintro e W1 ⟨A1, c1, rfl, hc1, hr1, hb1⟩
      have ho : (w.alloc (.cells #[.int .u8 (128 + (r : Int))] 5)).ownsRow w.heap.size 5 1 (.slice (some ⟨w.heap.size, 0, none⟩) 1 1) 1 [.int .u8 (128 + (r : Int))] :=
        World.ownsRow_lit w #[.int .u8 (128 + (r : Int))] 1 (Nat.le_refl _) (by unfold maxLen; omega) rfl
      have ho1 := ho.kept (row := none) (grown_of_below hb1 none) (.inr (by simp [Value.ownBlock]))
      have hB1 : Below w.heap.size w W1 := ((Below.refl _ _).alloc (Nat.le_refl _) _).trans (hb1.mono (by simp))
      have hs1 := hB1.size
      have HB1 := Lib.hid hB1
      clear hb1 hB1 ho HI
      go_wp2_with (at_builtin; refine wpList_append_rd _ rfl (.tmp 12) (.tmp 15) 36 rfl (enc := B8) w.heap.size 5 i0 (.int .u8 0) 1 Try.underlying36 hi hz0 hz1 hz2 rfl _ 1 [.int .u8 (128 + (r : Int))] rfl ho1 A1 (szS q) c1 (varL q) rfl (varL_length q) hr1 one8 ?c4 ?c5 ?c6 ?_)
      case c4 => unfold maxLen; omega
      case c5 => omega
      case c6 => exact hs1
      intro v2 W2 ho2 hg2 _
      have hB2 : Below w.heap.size w W2 := HB1.out.grown hg2 hs1 (fun k hk => by simp [Value.ownBlock] at hk; omega)
      obtain ⟨A2, c2, rfl, hle, hrd⟩ := Rd.own (l := UInt8.ofNat (128 + r) :: varL q) (enc := B8) (by rw [List.map_cons, hB]; exact ho2)
      have HB2 := Lib.hid hB2
      rw [Nat.add_comm 1 (szS q)] at hle
      clear ho1 ho2 hg2 hr1 HB1 hB2
      go_wp2
      go_ret
      exact ⟨A2, c2, by rw [Nat.add_comm]; rfl, hle, hrd, HB2.out⟩
/-- The reference's varint. -/
theorem rvar (x : Nat) (w : World) (hx : x < 18446744073709551616) :
    Calls Try.prog 48 #[.int .u64 (x : Int)] w fun e w' => ∃ A c, e = .returned (.slice A (szS x) c) ∧ szS x ≤ c ∧ Rd B8 w' (fun b => w.heap.size ≤ b) A (varL x) ∧ Below w.heap.size w w' :=
  rvar_calls 9 x w hx (by omega)
end Go.Proofs.Ytogdbccfkbbcaaa
