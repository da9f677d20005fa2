/- The walks of the reference: a seal opened; what a cursor reads, one contract each. -/
import Derived.Test.YtogdbccfkbbcaaaRefCn
import Derived.Test.YtogdbccfkbbcaaaRefCb
import Derived.Test.YtogdbccfkbbcaaaRefCrc
namespace Go.Proofs.Ytogdbccfkbbcaaa
open Go.RowKit
set_option linter.unusedSimpArgs false
variable {D : Nat}
theorem ropen_short (A : Option Addr) (l : List UInt8) (n c : Nat) (w : World) (hn : l.length = n) (h2 : n < 2) :
    Calls Try.prog 39 #[.slice A n c] w fun e w' => e = .returned (.tuple #[.slice none 0 0, .int .i64 4]) ∧ w = w' := by
  have hd : decide ((n : Int) < 2) = true := by simp; omega
  clear h2 hn
  go_enter Try.func39, Try.ntmps39
  go_wp2
  go_ret2
  exact ⟨rfl, rfl⟩
set_option maxRecDepth 100000 in
theorem ropen_bad (A : Option Addr) (l : List UInt8) (c : Nat) (S : Nat → Prop) (w : World) (n : Nat) (x y : UInt8) (hn : l.length = n + 2) (hx : l[n]? = some x) (hy : l[n + 1]? = some y)
    (hne : sumI (l.take n) ≠ (x.toNat : Int) * 256 + (y.toNat : Int)) (hc : n + 2 ≤ c) (hl : n ≤ 1000000) (hr : Rd B8 w S A l) :
    Calls Try.prog 39 #[.slice A (n + 2) c] w fun e w' => e = .returned (.tuple #[.slice none 0 0, .int .i64 5]) ∧ w = w' := by
  have hr1 := hr.take n
  have hlt : (l.take n).length = n := by rw [List.length_take]; omega
  obtain ⟨b, o, x', rfl, _, hx', hcx⟩ := hr.at_ (i := n) (by omega)
  have hcx1 := hr.cells hx
  have hcy1 := hr.cells hy
  unfold B8 at hcx1 hcy1
  have hs := sumI_rng (l.take n)
  have Hl := Lib.hid hlt
  have hsum := fun W (h : Rd B8 W S (some ⟨b, o, none⟩) (l.take n)) => rsum_calls (some ⟨b, o, none⟩) (l.take n) n c Hl.out S W (by omega) h
  obtain ⟨s, hse⟩ : ∃ s, sumI (l.take n) = s := ⟨_, rfl⟩
  rw [hse] at hs hne hsum
  have hxl := x.toNat_lt
  have hyl := y.toNat_lt
  have t1 : s.tdiv 256 = s / 256 := Int.tdiv_eq_ediv_of_nonneg hs.1
  have t2 : s.tmod 256 = s % 256 := Int.tmod_eq_emod_of_nonneg hs.1
  have w1 : IntKind.u8.wrap (s / 256) = s / 256 := by show (s / 256) % 256 = _; omega
  have w2 : IntKind.u8.wrap (s % 256) = s % 256 := by show (s % 256) % 256 = _; omega
  have w3 : IntKind.u16.wrap (s / 256) = s / 256 := by show (s / 256) % 65536 = _; omega
  have w4 : IntKind.u16.wrap (s % 256) = s % 256 := by show (s % 256) % 65536 = _; omega
  have wn : IntKind.i64.wrap ((n : Int) + 1) = (n : Int) + 1 := IntWalk.i64_in _ ⟨by omega, by omega⟩
  have wn2 : ((n : Int) + 1).toNat = n + 1 := by omega
  have hn0 : n ≤ c := by omega
  have T : (s / 256 != (x.toNat : Int)) = true ∨ ((s / 256 != (x.toNat : Int)) = false ∧ (s % 256 != (y.toNat : Int)) = true) := by
    simp only [bne_iff_ne, ne_eq, bne_eq_false_iff_eq]
    omega
  clear hx' hcx hx hy hn hlt hse hs hne
  rcases T with T | ⟨T, T'⟩ <;>
  · go_enter Try.func39, Try.ntmps39
    go_wp2_with fail
    refine (hsum _ hr1).mono ?_
    rintro e w1 ⟨rfl, rfl⟩
    go_wp2
    go_ret2
    exact ⟨rfl, rfl⟩
set_option maxRecDepth 100000 in
theorem ropen_good (A : Option Addr) (l : List UInt8) (c : Nat) (S : Nat → Prop) (w : World) (n : Nat) (x y : UInt8) (hn : l.length = n + 2) (hx : l[n]? = some x) (hy : l[n + 1]? = some y)
    (hne : sumI (l.take n) = (x.toNat : Int) * 256 + (y.toNat : Int)) (hc : n + 2 ≤ c) (hl : n ≤ 1000000) (hr : Rd B8 w S A l) :
    Calls Try.prog 39 #[.slice A (n + 2) c] w fun e w' => e = .returned (.tuple #[.slice A n c, .int .i64 0]) ∧ w = w' := by
  have hr1 := hr.take n
  have hlt : (l.take n).length = n := by rw [List.length_take]; omega
  obtain ⟨b, o, x', rfl, _, hx', hcx⟩ := hr.at_ (i := n) (by omega)
  have hcx1 := hr.cells hx
  have hcy1 := hr.cells hy
  unfold B8 at hcx1 hcy1
  have hs := sumI_rng (l.take n)
  have Hl := Lib.hid hlt
  have hsum := fun W (h : Rd B8 W S (some ⟨b, o, none⟩) (l.take n)) => rsum_calls (some ⟨b, o, none⟩) (l.take n) n c Hl.out S W (by omega) h
  obtain ⟨s, hse⟩ : ∃ s, sumI (l.take n) = s := ⟨_, rfl⟩
  rw [hse] at hs hne hsum
  have hxl := x.toNat_lt
  have hyl := y.toNat_lt
  have t1 : s.tdiv 256 = s / 256 := Int.tdiv_eq_ediv_of_nonneg hs.1
  have t2 : s.tmod 256 = s % 256 := Int.tmod_eq_emod_of_nonneg hs.1
  have w1 : IntKind.u8.wrap (s / 256) = s / 256 := by show (s / 256) % 256 = _; omega
  have w2 : IntKind.u8.wrap (s % 256) = s % 256 := by show (s % 256) % 256 = _; omega
  have w3 : IntKind.u16.wrap (s / 256) = s / 256 := by show (s / 256) % 65536 = _; omega
  have w4 : IntKind.u16.wrap (s % 256) = s % 256 := by show (s % 256) % 65536 = _; omega
  have wn : IntKind.i64.wrap ((n : Int) + 1) = (n : Int) + 1 := IntWalk.i64_in _ ⟨by omega, by omega⟩
  have wn2 : ((n : Int) + 1).toNat = n + 1 := by omega
  have hn0 : n ≤ c := by omega
  have T : (s / 256 != (x.toNat : Int)) = false := by simp only [bne_eq_false_iff_eq]; omega
  have T' : (s % 256 != (y.toNat : Int)) = false := by simp only [bne_eq_false_iff_eq]; omega
  clear hx' hcx hx hy hn hlt hse hs hne
  go_enter Try.func39, Try.ntmps39
  go_wp2_with fail
  refine (hsum _ hr1).mono ?_
  rintro e w1 ⟨rfl, rfl⟩
  go_wp2
  go_ret2
  exact ⟨rfl, rfl⟩
theorem rd_byte (p e : Nat) (l : List UInt8) (w : World) (hc : RCur w D p e l) :
    Calls Try.prog 40 #[.pointer (some ⟨p, 0, none⟩), .agg #[.int .i64 1, .int .u64 0, .int .u8 0, .int .u8 0, .int .u8 0, .int .u8 0, .int .u8 0, .int .u8 0, .int .u8 0, .int .u8 0, .int .u8 0, (.slice none 0 0), .int .i64 0]] w fun r w' => r = .returned (.agg #[.int .i64 1, .int .u64 0, .int .u8 ((byteR e l).1.toNat : Int), .int .u8 0, .int .u8 0, .int .u8 0, .int .u8 0, .int .u8 0, .int .u8 0, .int .u8 0, .int .u8 0, (.slice none 0 0), .int .i64 0]) ∧ RCur w' D p (byteR e l).2.1 (byteR e l).2.2 ∧ w.grownBy w' (some p) := by
  by_cases he : e = 0
  · subst he
    cases l with
    | nil => exact rread_byte_nil p w hc
    | cons x r => exact rread_byte_cons p x r w hc
  · have h : byteR e l = (0, e, l) := by unfold byteR; rw [if_pos he]
    rw [h]
    exact rread_bad p e 1 0 0 0 _ l w he hc
theorem rd_num (p e most : Nat) (l : List UInt8) (w : World) (hc : RCur w D p e l) :
    Calls Try.prog 40 #[.pointer (some ⟨p, 0, none⟩), .agg #[.int .i64 0, .int .u64 (most : Int), .int .u8 0, .int .u8 0, .int .u8 0, .int .u8 0, .int .u8 0, .int .u8 0, .int .u8 0, .int .u8 0, .int .u8 0, (.slice none 0 0), .int .i64 0]] w fun r w' => r = .returned (.agg #[.int .i64 0, .int .u64 ((numR most e l).1 : Int), .int .u8 0, .int .u8 0, .int .u8 0, .int .u8 0, .int .u8 0, .int .u8 0, .int .u8 0, .int .u8 0, .int .u8 0, (.slice none 0 0), .int .i64 0]) ∧ RCur w' D p (numR most e l).2.1 (numR most e l).2.2 ∧ w.grownBy w' (some p) := by
  by_cases he : e = 0
  · subst he
    exact rread_num p most l w hc
  · have h : numR most e l = (0, e, l) := by unfold numR; rw [if_pos he]
    rw [h]
    exact rread_bad p e 0 (most : Int) 0 0 _ l w he hc
theorem rd_bytes (p e most : Nat) (l : List UInt8) (w : World) (hmo : most ≤ 1000000) (hc : RCur w D p e l) :
    Calls Try.prog 40 #[.pointer (some ⟨p, 0, none⟩), .agg #[.int .i64 3, .int .u64 0, .int .u8 0, .int .u8 0, .int .u8 0, .int .u8 0, .int .u8 0, .int .u8 0, .int .u8 0, .int .u8 0, .int .u8 0, (.slice none 0 0), .int .i64 (most : Int)]] w fun r w' => ∃ A' c', r = .returned (.agg #[.int .i64 3, .int .u64 0, .int .u8 0, .int .u8 0, .int .u8 0, .int .u8 0, .int .u8 0, .int .u8 0, .int .u8 0, .int .u8 0, .int .u8 0, (.slice A' (bytesR most e l).1.length c'), .int .i64 0]) ∧ (bytesR most e l).1.length ≤ c' ∧
      Rd B8 w' (fun b => b < D) A' (bytesR most e l).1 ∧ RCur w' D p (bytesR most e l).2.1 (bytesR most e l).2.2 ∧ w.grownBy w' (some p) := by
  by_cases he : e = 0
  · subst he
    exact rread_bytes p most l w hmo hc
  · rw [bytesR_bad most e l he]
    refine (rread_bad p e 3 0 0 (most : Int) _ l w he hc).mono ?_
    rintro r w' ⟨h1, h2, h3⟩
    exact ⟨none, 0, h1, Nat.le_refl _, Rd.nil, h2, h3⟩
end Go.Proofs.Ytogdbccfkbbcaaa
