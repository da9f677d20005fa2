/- The walks of the reference's sum, bit by bit: it is the program's own. -/
import Derived.Test.YtogdbccfkbbcaaaCrcSum
import Derived.Test.YtogdbccfkbbcaaaVarW
namespace Go.Proofs.Ytogdbccfkbbcaaa
open Go.RowKit Crc
theorem testBit_mod (x i : Nat) : x / 2 ^ i % 2 = (x.testBit i).toNat := by
  rw [Nat.testBit_eq_decide_div_mod_eq]
  rcases Nat.mod_two_eq_zero_or_one (x / 2 ^ i) with h | h <;> simp [h]
theorem xor_step (a b i : Nat) : (a ^^^ b) % 2 ^ (i + 1) = (a ^^^ b) % 2 ^ i + if a / 2 ^ i % 2 = b / 2 ^ i % 2 then 0 else 2 ^ i := by
  rw [Nat.mod_pow_succ, testBit_mod, testBit_mod, testBit_mod, Nat.testBit_xor]
  cases a.testBit i <;> cases b.testBit i <;> simp
theorem half_pow (a k : Nat) : a / 2 ^ k / 2 = a / 2 ^ (k + 1) := by rw [Nat.div_div_eq_div_mul, Nat.pow_succ]
set_option maxRecDepth 100000 in
theorem lay_calls (a b : Nat) (ha : a < 65536) (hb : b < 65536) (w : World) :
    Calls Try.prog 111 #[.int .i64 (a : Int), .int .i64 (b : Int)] w fun e w' => e = .returned (.int .i64 ((a ^^^ b : Nat) : Int)) ∧ w = w' := by
  go_enter Try.func111, Try.ntmps111
  go_wp2
  go_loop [0, 1, 5, 6, 7] (fun x y o p i => ∃ k : Nat, k ≤ 16 ∧ i = .int .i64 k ∧ x = .int .i64 ((a / 2 ^ k : Nat) : Int) ∧ y = .int .i64 ((b / 2 ^ k : Nat) : Int) ∧ o = .int .i64 (((a ^^^ b) % 2 ^ k : Nat) : Int) ∧ p = .int .i64 ((2 ^ k : Nat) : Int)) (fun _ _ _ _ i => 16 - (intOf i).toNat)
  case atStart => exact ⟨0, by omega, rfl, by simp, by simp, by rw [Nat.pow_zero, Nat.mod_one]; rfl, rfl⟩
  case round =>
    obtain ⟨k, hk, rfl, rfl, rfl, rfl, rfl⟩ := hrel
    by_cases hlt : k < 16
    · have hd : decide ((k : Int) < 16) = true := by simp; omega
      have hx1 := half_pow a k
      have hx2 := half_pow b k
      have hx3 := xor_step a b k
      have hpp : 2 ^ (k + 1) = 2 ^ k * 2 := Nat.pow_succ 2 k
      have hpl : 2 ^ k ≤ 2 ^ 15 := Nat.pow_le_pow_right (by omega) (by omega)
      have hol : (a ^^^ b) % 2 ^ k < 2 ^ k := Nat.mod_lt _ (Nat.two_pow_pos k)
      have hxl : a / 2 ^ k ≤ a := Nat.div_le_self _ _
      have hyl : b / 2 ^ k ≤ b := Nat.div_le_self _ _
      generalize hX' : a / 2 ^ (k + 1) = X' at *
      generalize hY' : b / 2 ^ (k + 1) = Y' at *
      generalize hO' : (a ^^^ b) % 2 ^ (k + 1) = O' at *
      generalize hP' : 2 ^ (k + 1) = P' at *
      generalize a / 2 ^ k = X at *
      generalize b / 2 ^ k = Y at *
      generalize (a ^^^ b) % 2 ^ k = O at *
      generalize 2 ^ k = P at *
      have HX' := Lib.hid hX'
      have HY' := Lib.hid hY'
      have HO' := Lib.hid hO'
      have HP' := Lib.hid hP'
      clear hX' hY' hO' hP'
      obtain ⟨r1, hr1⟩ : ∃ r, X % 2 = r := ⟨_, rfl⟩
      obtain ⟨r2, hr2⟩ : ∃ r, Y % 2 = r := ⟨_, rfl⟩
      have t1 : (X : Int).tmod 2 = (r1 : Int) := by rw [Int.tmod_eq_emod_of_nonneg (by omega)]; omega
      have t2 : (Y : Int).tmod 2 = (r2 : Int) := by rw [Int.tmod_eq_emod_of_nonneg (by omega)]; omega
      have t3 : (X : Int).tdiv 2 = (X' : Int) := by rw [Int.tdiv_eq_ediv_of_nonneg (by omega)]; omega
      have t4 : (Y : Int).tdiv 2 = (Y' : Int) := by rw [Int.tdiv_eq_ediv_of_nonneg (by omega)]; omega
      have w1 : IntKind.i64.wrap (r1 : Int) = (r1 : Int) := IntWalk.i64_in _ ⟨by omega, by omega⟩
      have w2 : IntKind.i64.wrap (r2 : Int) = (r2 : Int) := IntWalk.i64_in _ ⟨by omega, by omega⟩
      have w3 : IntKind.i64.wrap (X' : Int) = (X' : Int) := IntWalk.i64_in _ ⟨by omega, by omega⟩
      have w4 : IntKind.i64.wrap (Y' : Int) = (Y' : Int) := IntWalk.i64_in _ ⟨by omega, by omega⟩
      have w5 : IntKind.i64.wrap ((P : Int) * 2) = (P : Int) * 2 := IntWalk.i64_in _ ⟨by omega, by omega⟩
      have w6 : IntKind.i64.wrap ((O : Int) + (P : Int)) = (O : Int) + (P : Int) := IntWalk.i64_in _ ⟨by omega, by omega⟩
      rw [hr1, hr2] at hx3
      by_cases hrr : r1 = r2
      · have hd2 : ((r1 : Int) != (r2 : Int)) = false := by simp; omega
        rw [if_pos hrr] at hx3
        go_wp2
        go_round
        case rel => exact ⟨k + 1, by omega, by go_num, by rw [HP'.out, HX'.out], by rw [HP'.out, HY'.out], by rw [HP'.out, HO'.out, hx3, Nat.add_zero], by rw [HP'.out, hpp]; rfl⟩
        case measure => simp [intOf]; omega
      · have hd2 : ((r1 : Int) != (r2 : Int)) = true := by simp; omega
        rw [if_neg hrr] at hx3
        go_wp2
        go_round
        case rel => exact ⟨k + 1, by omega, by go_num, by rw [HP'.out, HX'.out], by rw [HP'.out, HY'.out], by rw [HP'.out, HO'.out, hx3]; rfl, by rw [HP'.out, hpp]; rfl⟩
        case measure => simp [intOf]; omega
    · obtain rfl : k = 16 := by omega
      have hx : a ^^^ b < 2 ^ 16 := Nat.xor_lt_two_pow ha hb
      have hd : decide (((16 : Nat) : Int) < 16) = false := by decide
      have he : Hid ((a ^^^ b) % 2 ^ 16 = a ^^^ b) := Nat.mod_eq_of_lt hx
      generalize hO : (a ^^^ b) % 2 ^ 16 = O
      rw [he.out] at hO
      subst hO
      clear he hx
      go_wp2
      go_ret
      exact ⟨rfl, rfl⟩
/-- One bit, as the reference takes it. -/
theorem step_ref (r : BitVec 16) (b : Bool) : (step1 r b).toNat = if r.toNat / 32768 = b.toNat then r.toNat * 2 % 65536 else (r.toNat * 2 % 65536) ^^^ 4129 := by
  have hr := r.isLt
  have hs : (r <<< 1).toNat = r.toNat * 2 % 65536 := by rw [BitVec.toNat_shiftLeft, Nat.shiftLeft_eq]
  have hm : r.msb = decide (32768 ≤ r.toNat) := by rw [BitVec.msb_eq_decide]
  have hb : (bit1 b) <<< 1 = 0#16 := by cases b <;> decide
  have hbm : (bit1 b).msb = b := by cases b <;> decide
  unfold step1 T
  rw [BitVec.msb_xor, hbm, hm, BitVec.shiftLeft_xor_distrib, hb, BitVec.xor_zero]
  by_cases h : 32768 ≤ r.toNat
  · have h1 : r.toNat / 32768 = 1 := by omega
    cases b
    · simp [h, h1, hs]
    · simp [h, h1, hs]
  · have h1 : r.toNat / 32768 = 0 := by omega
    cases b
    · simp [h, h1, hs]
    · simp [h, h1, hs]
theorem bitsB_get (c : UInt8) (k : Nat) (hk : k < 8) : (bitsB c)[k]? = some (c.toNat.testBit (7 - k)) := by
  simp [bitsB, hk]
theorem fold1_snoc (r : BitVec 16) (l : List Bool) (b : Bool) : fold1 r (l ++ [b]) = step1 (fold1 r l) b := by rw [fold1_append]; rfl
theorem bitsL_snoc (l : List UInt8) (c : UInt8) : bitsL (l ++ [c]) = bitsL l ++ bitsB c := by simp [bitsL]
set_option maxHeartbeats 1000000 in
set_option maxRecDepth 100000 in
theorem rmore_calls (s : BitVec 16) (A : Option Addr) (l : List UInt8) (n c : Nat) (hn : l.length = n) (S : Nat → Prop) (w : World) (hl : n ≤ 9223372036854775807) (hr : Rd B8 w S A l) :
    Calls Try.prog 91 #[.int .u16 (s.toNat : Int), .slice A n c] w fun e w' => e = .returned (.int .u16 ((fold1 s (bitsL l)).toNat : Int)) ∧ w = w' := by
  subst hn
  have hs := s.isLt
  have hs0 : IntKind.i64.wrap (s.toNat : Int) = (s.toNat : Int) := IntWalk.i64_in _ ⟨by omega, by omega⟩
  go_enter Try.func91, Try.ntmps91
  go_wp2
  go_loop [5, 6] (fun q i => ∃ k : Nat, k ≤ l.length ∧ i = .int .i64 k ∧ q = .int .i64 ((fold1 s (bitsL (l.take k))).toNat : Int)) (fun _ i => l.length - (intOf i).toNat)
  case atStart => exact ⟨0, by omega, rfl, rfl⟩
  case round =>
    obtain ⟨k, hk, rfl, rfl⟩ := hrel
    clear hs0 hs
    by_cases hlt : k < l.length
    · have hd : decide (k < l.length) = true := by simp; omega
      obtain ⟨b, o, x, rfl, _, hx0, hc⟩ := hr.at_ hlt
      unfold B8 at hc
      have hsn : Hid (fold1 s (bitsL (l.take (k + 1))) = fold1 (fold1 s (bitsL (l.take k))) (bitsB x)) := by show _ = _; rw [take_snoc hx0, bitsL_snoc, fold1_append]
      generalize fold1 s (bitsL (l.take k)) = R at hsn ⊢
      clear hx0 hr
      go_wp2
      go_loop [5, 7] (fun q j => ∃ i : Nat, i ≤ 8 ∧ j = .int .i64 i ∧ q = .int .i64 ((fold1 R ((bitsB x).take i)).toNat : Int)) (fun _ j => 8 - (intOf j).toNat)
      case atStart => exact ⟨0, by omega, rfl, rfl⟩
      case round =>
        obtain ⟨i, hi, rfl, rfl⟩ := hrel
        by_cases hlt2 : i < 8
        · have hd2 : decide ((i : Int) < 8) = true := by simp; omega
          have hst : Hid (fold1 R ((bitsB x).take (i + 1)) = step1 (fold1 R ((bitsB x).take i)) (x.toNat.testBit (7 - i))) := by show _ = _; rw [take_snoc (bitsB_get x i hlt2), fold1_snoc]
          generalize fold1 R ((bitsB x).take i) = Q at hst ⊢
          have hq := Q.isLt
          have hxl := x.toNat_lt
          have hstep := step_ref Q (x.toNat.testBit (7 - i))
          obtain ⟨u, hu⟩ : ∃ u, Q.toNat / 32768 = u := ⟨_, rfl⟩
          have t1 : (Q.toNat : Int).tdiv 32768 = (u : Int) := by rw [Int.tdiv_eq_ediv_of_nonneg (by omega)]; omega
          have w1 : IntKind.i64.wrap (u : Int) = (u : Int) := IntWalk.i64_in _ ⟨by omega, by omega⟩
          have w2 : IntKind.i64.wrap (x.toNat : Int) = (x.toNat : Int) := IntWalk.i64_in _ ⟨by omega, by omega⟩
          have w3 : IntKind.i64.wrap (7 - (i : Int)) = 7 - (i : Int) := IntWalk.i64_in _ ⟨by omega, by omega⟩
          obtain ⟨v, hv⟩ : ∃ v, Q.toNat * 2 % 65536 = v := ⟨_, rfl⟩
          have w4 : IntKind.i64.wrap ((Q.toNat : Int) * 2) = (Q.toNat : Int) * 2 := IntWalk.i64_in _ ⟨by omega, by omega⟩
          have t2 : ((Q.toNat : Int) * 2).tmod 65536 = (v : Int) := by rw [Int.tmod_eq_emod_of_nonneg (by omega)]; omega
          have w5 : IntKind.i64.wrap (v : Int) = (v : Int) := IntWalk.i64_in _ ⟨by omega, by omega⟩
          have hvl : v < 65536 := by omega
          go_wp2
          go_loop [9, 10] (fun y m => ∃ j : Nat, j ≤ 7 - i ∧ m = .int .i64 j ∧ y = .int .i64 ((x.toNat / 2 ^ j : Nat) : Int)) (fun _ m => 7 - i - (intOf m).toNat)
          case atStart => exact ⟨0, by omega, rfl, by simp⟩
          case round =>
            obtain ⟨j, hj, rfl, rfl⟩ := hrel
            have hjl : x.toNat / 2 ^ j ≤ x.toNat := Nat.div_le_self _ _
            by_cases hlt3 : j < 7 - i
            · have hd3 : decide ((j : Int) < 7 - (i : Int)) = true := by simp; omega
              have hh := Lib.hid (half_pow x.toNat j)
              have hh2 := hh.out
              generalize x.toNat / 2 ^ (j + 1) = y' at hh2
              generalize x.toNat / 2 ^ j = y at hh hh2 hjl ⊢
              have t3 : (y : Int).tdiv 2 = (y' : Int) := by rw [Int.tdiv_eq_ediv_of_nonneg (by omega)]; omega
              have w6 : IntKind.i64.wrap (y' : Int) = (y' : Int) := IntWalk.i64_in _ ⟨by omega, by omega⟩
              have hy := Lib.hid hh2
              clear hh2
              go_wp2
              go_round
              case rel => exact ⟨j + 1, by omega, by go_num, by rw [← hh.out, hy.out]⟩
              case measure => simp [intOf]; omega
            · obtain rfl : j = 7 - i := by omega
              have hd3 : decide (((7 - i : Nat) : Int) < 7 - (i : Int)) = false := by simp; omega
              have htb := testBit_mod x.toNat (7 - i)
              obtain ⟨z, hz⟩ : ∃ z, x.toNat / 2 ^ (7 - i) % 2 = z := ⟨_, rfl⟩
              generalize x.toNat / 2 ^ (7 - i) = y at *
              have t4 : (y : Int).tmod 2 = (z : Int) := by rw [Int.tmod_eq_emod_of_nonneg (by omega)]; omega
              have w7 : IntKind.i64.wrap (z : Int) = (z : Int) := IntWalk.i64_in _ ⟨by omega, by omega⟩
              rw [← htb, hz, hu, hv] at hstep
              by_cases huz : u = z
              · have hd4 : ((u : Int) != (z : Int)) = false := by simp; omega
                rw [if_pos huz] at hstep
                have HS := Lib.hid hstep
                clear hstep
                go_wp2
                go_round
                case rel => exact ⟨i + 1, by omega, by go_num, by rw [hst.out, HS.out]⟩
                case measure => simp [intOf]; omega
              · have hd4 : ((u : Int) != (z : Int)) = true := by simp; omega
                rw [if_neg huz] at hstep
                have HS := Lib.hid hstep
                clear hstep
                go_wp2_with (go_at_call 111; refine (lay_calls v 4129 hvl (by omega) _).mono ?_; rintro e w1 ⟨rfl, rfl⟩)
                go_round
                case rel => exact ⟨i + 1, by omega, by go_num, by rw [hst.out, HS.out]⟩
                case measure => simp [intOf]; omega
        · obtain rfl : i = 8 := by omega
          have hd2 : decide (((8 : Nat) : Int) < 8) = false := by decide
          have ht : Hid ((bitsB x).take 8 = bitsB x) := List.take_of_length_le (by rw [bitsB_length]; omega)
          go_wp2
          go_round
          case rel => exact ⟨k + 1, by omega, by go_num, by rw [hsn.out, ht.out]⟩
          case measure => simp [intOf]; omega
    · have hd : decide (k < l.length) = false := by simp; omega
      have hE : Hid (l.take k = l) := List.take_of_length_le (by omega)
      have hF := (fold1 s (bitsL (l.take k))).isLt
      generalize hG : fold1 s (bitsL (l.take k)) = G at *
      have HG := Lib.hid hG
      clear hG
      have w8 : IntKind.u16.wrap (G.toNat : Int) = (G.toNat : Int) := wrap_u16_nat _ hF
      go_wp2
      go_ret
      exact ⟨by rw [← HG.out, hE.out]; rfl, rfl⟩
theorem rsum_calls (A : Option Addr) (l : List UInt8) (n c : Nat) (hn : l.length = n) (S : Nat → Prop) (w : World) (hl : n ≤ 9223372036854775807) (hr : Rd B8 w S A l) :
    Calls Try.prog 76 #[.slice A n c] w fun e w' => e = .returned (.int .u16 (sumI l)) ∧ w = w' := by
  have Hn := Lib.hid hn
  clear hn
  have hm := rmore_calls 0xffff#16 A l n c Hn.out S w hl hr
  have hs : Hid (((fold1 0xffff#16 (bitsL l)).toNat : Int) = sumI l) := (sumI_T l).symm
  rw [hs.out] at hm
  have HM := Lib.hid hm
  clear hm hs
  go_enter Try.func76, Try.ntmps76
  go_wp2_with fail
  refine HM.out.mono ?_
  rintro e w1 ⟨rfl, rfl⟩
  go_wp2
  go_ret
  exact ⟨rfl, rfl⟩
set_option maxRecDepth 100000 in
theorem rseal_calls (A : Option Addr) (l : List UInt8) (n c : Nat) (S : Nat → Prop) (w : World) (hn : l.length = n) (hl : n ≤ 140737488351230) (hr : Rd B8 w S A l) :
    Calls Try.prog 49 #[.slice A n c] w fun e w' => ∃ A' c', e = .returned (.slice A' (n + 2) c') ∧ n + 2 ≤ c' ∧ Rd B8 w' (fun b => w.heap.size ≤ b) A' (l ++ sealB l) ∧ Below w.heap.size w w' := by
  obtain ⟨i0, hi, hz0, hz1, hz2⟩ := info_parts info5
  have Hn := Lib.hid hn
  have hrg := sumI_rng l
  clear hn
  have t1 : (sumI l).tdiv 256 = sumI l / 256 := Int.tdiv_eq_ediv_of_nonneg hrg.1
  have t2 : (sumI l).tmod 256 = sumI l % 256 := Int.tmod_eq_emod_of_nonneg hrg.1
  have w1 : IntKind.u8.wrap (sumI l / 256) = sumI l / 256 := by show (sumI l / 256) % 256 = _; omega
  have w2 : IntKind.u8.wrap (sumI l % 256) = sumI l % 256 := by show (sumI l % 256) % 256 = _; omega
  go_enter Try.func49, Try.ntmps49
  go_wp2_with fail
  refine (rsum_calls _ _ _ _ Hn.out _ _ (by omega) hr).mono ?_
  rintro e w1 ⟨rfl, rfl⟩
  go_wp2_with (at_builtin; refine wpList_append_rd _ rfl (.tmp 6) (.tmp 7) 36 rfl (enc := B8) (S := S) w.heap.size 5 i0 (.int .u8 0) 1 Try.underlying36 hi hz0 hz1 hz2 rfl _ 0 [] rfl ?c1 A n c l rfl Hn.out ?c3 one8 ?c4 ?c5 ?c6 ?_)
  case c1 => exact owns_empty _ _ _ (Nat.le_refl _)
  case c3 => exact hr.alloc _
  case c4 => unfold maxLen; omega
  case c5 => omega
  case c6 => simp
  intro v1 w1 hown hgr _
  have hB1 : Below w.heap.size w w1 := ((Below.refl _ _).alloc (Nat.le_refl _) _).grown hgr (by simp) (fun k hk => by simp [Value.ownBlock] at hk; omega)
  have hs1 := hB1.size
  have HB1 := Lib.hid hB1
  clear hgr hB1
  go_wp2_with (at_builtin; refine wpList_append_rd _ rfl (.tmp 8) (.tmp 15) 36 rfl (enc := B8) (S := fun b => w.heap.size ≤ b) w.heap.size 5 i0 (.int .u8 0) 1 Try.underlying36 hi hz0 hz1 hz2 rfl v1 n (l.map B8) rfl (hown.alloc _) (some ⟨w1.heap.size, 0, none⟩) 2 2 (sealB l) rfl rfl ?d3 one8 ?d4 ?d5 ?d6 ?_)
  case d3 =>
    refine Rd.blk (t := 5) ?_ hs1
    unfold sealB
    simp only [List.map_cons, List.map_nil, seal_hi, seal_lo]
    exact Blk.new _ _ _
  case d4 => unfold maxLen; omega
  case d5 => omega
  case d6 => simp; omega
  intro v2 w2 hown2 hgr2 _
  have hB2 : Below w.heap.size w w2 := (HB1.out.alloc (by omega) _).grown hgr2 (by simp; omega) (fun k hk => by have := hown.lt k hk; omega)
  obtain ⟨A', c', rfl, hle, hrd⟩ := Rd.own (l := l ++ sealB l) (enc := B8) (by rw [List.map_append]; exact hown2)
  clear hown hown2 hgr2
  go_wp2
  go_ret
  exact ⟨_, _, rfl, hle, hrd, hB2⟩
end Go.Proofs.Ytogdbccfkbbcaaa
