/- The sum that the walk shows, as the register over bits. -/
import Derived.Test.YtogdbccfkbbcaaaCrcW
import Derived.Test.YtogdbccfkbbcaaaCrcLaw
namespace Go.Proofs.Ytogdbccfkbbcaaa
open Go.RowKit Crc
theorem stI_T (r : BitVec 16) : stI (r.toNat : Int) = ((T r).toNat : Int) := by
  have hr := r.isLt
  unfold stI T
  rw [show (32768 : Int) = ((32768 : Nat) : Int) from rfl, u16_and _ _ hr (by omega)]
  have hm : r.msb = decide (32768 ≤ r.toNat) := by rw [BitVec.msb_eq_decide]
  have hand : r.toNat &&& 32768 = if 32768 ≤ r.toNat then 32768 else 0 := by
    have h2 : r.toNat.testBit 15 = decide (32768 ≤ r.toNat) := by
      rw [Nat.testBit_eq_decide_div_mod_eq]
      by_cases h : 32768 ≤ r.toNat
      · simp; omega
      · simp; omega
    apply Nat.eq_of_testBit_eq
    intro i
    rw [Nat.testBit_and, show (32768 : Nat) = 2 ^ 15 from rfl, Nat.testBit_two_pow]
    by_cases h15 : 15 = i
    · subst h15
      rw [h2]
      by_cases h : 32768 ≤ r.toNat
      · rw [if_pos h]; simp [h]; decide
      · simp [h]
    · by_cases h : 2 ^ 15 ≤ r.toNat
      · rw [if_pos h, Nat.testBit_two_pow]; simp [h15]
      · rw [if_neg h]; simp [h15]
  have hw : IntKind.u16.wrap ((r.toNat : Int) * 2) = ((r.toNat * 2 % 65536 : Nat) : Int) := by
    show ((r.toNat : Int) * 2) % 65536 = _
    omega
  have hs : (r <<< 1).toNat = r.toNat * 2 % 65536 := by rw [BitVec.toNat_shiftLeft, Nat.shiftLeft_eq]
  rw [hand, hm, hw]
  by_cases h : 32768 ≤ r.toNat
  · rw [if_pos h, if_pos (by decide), if_pos (by simpa using h)]
    rw [show (4129 : Int) = ((4129 : Nat) : Int) from rfl, u16_xor _ _ (by omega) (by omega), BitVec.toNat_xor, hs]
    rfl
  · rw [if_neg h, if_neg (by decide), if_neg (by simpa using h), hs]
theorem Tn_T (k : Nat) : ∀ r, Tn k (T r) = T (Tn k r) := by
  induction k with
  | zero => intro r; rfl
  | succ k ih => intro r; exact ih (T r)
theorem stN_T (k : Nat) (r : BitVec 16) : stN k (r.toNat : Int) = ((Tn k r).toNat : Int) := by
  induction k with
  | zero => rfl
  | succ k ih => show stI (stN k _) = _; rw [ih, stI_T]; show _ = ((Tn k (T r)).toNat : Int); rw [Tn_T]
/-- The bits of a byte, the highest first. -/
def bitsB (c : UInt8) : List Bool := (List.range 8).map fun i => c.toNat.testBit (7 - i)
def bitsL (l : List UInt8) : List Bool := l.flatMap bitsB
theorem bitsB_length (c : UInt8) : (bitsB c).length = 8 := by simp [bitsB]
theorem wd_byte0 : ∀ c : Fin 256, Wd ((List.range 8).map fun i => c.val.testBit (7 - i)) = BitVec.ofNat 16 c.val <<< 8 := by decide +kernel
theorem wd_byte (c : UInt8) : Wd (bitsB c) = BitVec.ofNat 16 c.toNat <<< 8 := wd_byte0 ⟨c.toNat, c.toNat_lt⟩
theorem low8 : ∀ c : Fin 256, Tn 8 (BitVec.ofNat 16 c.val) = BitVec.ofNat 16 c.val <<< 8 := by decide +kernel
theorem split8 (r : BitVec 16) (c : Nat) : r ^^^ (BitVec.ofNat 16 c <<< 8) = (BitVec.ofNat 16 (r.toNat / 256 ^^^ c) <<< 8) ^^^ BitVec.ofNat 16 (r.toNat % 256) := by
  apply BitVec.eq_of_getLsbD_eq
  intro i hi
  simp only [BitVec.getLsbD_xor, BitVec.getLsbD_shiftLeft, BitVec.getLsbD_ofNat, hi, decide_true, Bool.true_and]
  have h1 : (r.toNat % 256).testBit i = (decide (i < 8) && r.getLsbD i) := by
    rw [show (256 : Nat) = 2 ^ 8 from rfl, Nat.testBit_mod_two_pow]; rfl
  rw [h1]
  by_cases h8 : i < 8
  · simp [h8]
  · have h2 : (r.toNat / 256 ^^^ c).testBit (i - 8) = (r.getLsbD i ^^ c.testBit (i - 8)) := by
      rw [Nat.testBit_xor, show (256 : Nat) = 2 ^ 8 from rfl, Nat.testBit_div_two_pow, show i - 8 + 8 = i from by omega]; rfl
    have h3 : i - 8 < 16 := by omega
    simp [h8, h2, h3]
theorem mStep_T (r : BitVec 16) (c : UInt8) : mStep (r.toNat : Int) c = ((fold1 r (bitsB c)).toNat : Int) := by
  have hr := r.isLt
  have hc := c.toNat_lt
  have hlen : (bitsB c).length ≤ 16 := by rw [bitsB_length]; omega
  rw [fold1_word _ _ hlen, bitsB_length, wd_byte, split8 r c.toNat, Tn_xor, low8 ⟨r.toNat % 256, by omega⟩]
  have hx : r.toNat / 256 ^^^ c.toNat < 2 ^ 8 := Nat.xor_lt_two_pow (by omega) (by omega)
  unfold mStep idxI
  have e1 : (r.toNat : Int) / 256 % 256 = ((r.toNat / 256 : Nat) : Int) := by omega
  rw [e1, u8_xor _ _ (by omega) hc, Int.toNat_natCast]
  have e2 : IntKind.u16.wrap ((r.toNat : Int) * 256) = ((r.toNat % 256 * 256 : Nat) : Int) := by
    show ((r.toNat : Int) * 256) % 65536 = _
    omega
  have e3 : tbI (r.toNat / 256 ^^^ c.toNat) = ((Tn 8 (BitVec.ofNat 16 (r.toNat / 256 ^^^ c.toNat) <<< 8)).toNat : Int) := by
    rw [← stN_T]
    unfold tbI
    congr 1
    rw [BitVec.toNat_shiftLeft, BitVec.toNat_ofNat, Nat.shiftLeft_eq]
    omega
  rw [e2, e3, u16_xor _ _ (by omega) (BitVec.isLt _), BitVec.toNat_xor, Nat.xor_comm]
  congr 2
  simp only
  rw [BitVec.toNat_shiftLeft, BitVec.toNat_ofNat, Nat.shiftLeft_eq]
  omega
theorem mI_T (l : List UInt8) : ∀ r : BitVec 16, mI (r.toNat : Int) l = ((fold1 r (bitsL l)).toNat : Int) := by
  induction l with
  | nil => intro r; rfl
  | cons c l ih =>
    intro r
    show mI (mStep _ c) l = _
    rw [mStep_T, ih]
    show _ = ((fold1 r (bitsB c ++ bitsL l)).toNat : Int)
    rw [fold1_append]
/-- The register behind bytes. -/
def regL (l : List UInt8) : BitVec 16 := fold1 0xffff#16 (bitsL l)
theorem sumI_T (l : List UInt8) : sumI l = ((regL l).toNat : Int) := mI_T l 0xffff#16
theorem Wd_append (a : List Bool) : ∀ b, Wd (a ++ b) = Wd a ^^^ (Wd b >>> a.length) := by
  induction a with
  | nil => intro b; show Wd b = 0#16 ^^^ (Wd b >>> 0); simp
  | cons x a ih =>
    intro b
    show bit1 x ^^^ (Wd (a ++ b) >>> 1) = (bit1 x ^^^ (Wd a >>> 1)) ^^^ (Wd b >>> (a.length + 1))
    rw [ih, BitVec.ushiftRight_xor_distrib, BitVec.xor_assoc, BitVec.shiftRight_add]
theorem xor256 (x y : Nat) (hy : y < 256) : x * 256 ^^^ y = x * 256 + y := by
  rw [Nat.mul_comm x 256]
  apply Nat.eq_of_testBit_eq
  intro j
  rw [show (256 : Nat) = 2 ^ 8 from rfl, Nat.testBit_two_pow_mul_add x (by omega), Nat.testBit_xor, Nat.testBit_two_pow_mul]
  by_cases h : j < 8
  · have h' : ¬ 8 ≤ j := by omega
    simp [h, h']
  · rw [if_neg h]
    have h' : 8 ≤ j := by omega
    have : y.testBit j = false := Nat.testBit_lt_two_pow (Nat.lt_of_lt_of_le hy (Nat.pow_le_pow_right (n := 2) (by omega) (show 8 ≤ j by omega)))
    rw [this]; simp [h']
/-- **Bytes are sealed if and only if the register is 0 behind all of them.** -/
theorem sealed_iff (l : List UInt8) (x y : UInt8) : sumI l = (x.toNat : Int) * 256 + (y.toNat : Int) ↔ regL (l ++ [x, y]) = 0#16 := by
  have hx := x.toNat_lt
  have hy := y.toNat_lt
  have hz : regL (l ++ [x, y]) = Tn 16 (regL l ^^^ Wd (bitsB x ++ bitsB y)) := by
    unfold regL bitsL
    rw [List.flatMap_append, fold1_append]
    have e : List.flatMap bitsB [x, y] = bitsB x ++ bitsB y := by simp
    rw [e, fold1_word _ _ (by simp [bitsB_length]), List.length_append, bitsB_length, bitsB_length]
  have hw : Wd (bitsB x ++ bitsB y) = BitVec.ofNat 16 (x.toNat * 256 + y.toNat) := by
    rw [Wd_append, bitsB_length, wd_byte, wd_byte]
    apply BitVec.eq_of_toNat_eq
    rw [BitVec.toNat_xor, BitVec.toNat_ushiftRight, BitVec.toNat_shiftLeft, BitVec.toNat_shiftLeft, BitVec.toNat_ofNat, BitVec.toNat_ofNat, BitVec.toNat_ofNat, Nat.shiftLeft_eq, Nat.shiftLeft_eq, Nat.shiftRight_eq_div_pow]
    have h1 : x.toNat % 2 ^ 16 * 2 ^ 8 % 2 ^ 16 = x.toNat * 256 := by omega
    have h2 : y.toNat % 2 ^ 16 * 2 ^ 8 % 2 ^ 16 / 2 ^ 8 = y.toNat := by omega
    rw [h1, h2, xor256 _ _ hy]
    omega
  rw [hz, sumI_T, hw]
  constructor
  · intro h
    have : regL l = BitVec.ofNat 16 (x.toNat * 256 + y.toNat) := by
      apply BitVec.eq_of_toNat_eq
      rw [BitVec.toNat_ofNat]
      omega
    rw [this, BitVec.xor_self, Tn_zero]
  · intro h
    have h1 := xor_eq_zero _ _ (Tn_inj0 _ _ h)
    rw [h1, BitVec.toNat_ofNat]
    omega
end Go.Proofs.Ytogdbccfkbbcaaa
