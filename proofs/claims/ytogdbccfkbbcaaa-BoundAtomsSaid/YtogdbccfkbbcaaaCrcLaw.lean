/- Plain laws of the sum of 16 bits. -/
import Derived.WalkKit
namespace Go.Proofs.Ytogdbccfkbbcaaa.Crc
/-- One step of the register. -/
def T (r : BitVec 16) : BitVec 16 := if r.msb then (r <<< 1) ^^^ 0x1021#16 else r <<< 1
theorem T_zero : T 0#16 = 0#16 := by decide
theorem xor3a (x y p : BitVec 16) : (x ^^^ y) ^^^ p = (x ^^^ p) ^^^ y := by
  ext i; simp only [BitVec.getElem_xor]; cases x[i] <;> cases y[i] <;> cases p[i] <;> rfl
theorem xor3b (x y p : BitVec 16) : (x ^^^ y) ^^^ p = x ^^^ (y ^^^ p) := BitVec.xor_assoc _ _ _
theorem xor3c (x y p : BitVec 16) : x ^^^ y = (x ^^^ p) ^^^ (y ^^^ p) := by
  ext i; simp only [BitVec.getElem_xor]; cases x[i] <;> cases y[i] <;> cases p[i] <;> rfl
theorem T_xor (a b : BitVec 16) : T (a ^^^ b) = T a ^^^ T b := by
  unfold T
  rw [BitVec.msb_xor, BitVec.shiftLeft_xor_distrib]
  cases a.msb <;> cases b.msb
  · rfl
  · exact xor3b _ _ _
  · exact xor3a _ _ _
  · exact xor3c _ _ _
theorem T_low (a : BitVec 16) (h : a.msb = false) : T a = a <<< 1 := by unfold T; rw [h]; rfl
theorem T_inj0 (a : BitVec 16) (h : T a = 0#16) : a = 0#16 := by
  unfold T at h
  cases hm : a.msb with
  | true =>
    rw [hm, if_pos rfl] at h
    have := congrArg (fun x => x.getLsbD 0) h
    simp at this
  | false =>
    rw [hm] at h
    simp only [Bool.false_eq_true, if_false] at h
    apply BitVec.eq_of_getLsbD_eq
    intro i hi
    by_cases h15 : i = 15
    · subst h15
      rw [BitVec.msb_eq_getLsbD_last] at hm
      simpa using hm
    · have := congrArg (fun x => x.getLsbD (i + 1)) h
      simp only [BitVec.getLsbD_shiftLeft] at this
      have h16 : i + 1 < 16 := by omega
      simpa [h16] using this
def Tn : Nat → BitVec 16 → BitVec 16
  | 0, r => r
  | k + 1, r => Tn k (T r)
theorem Tn_zero (k : Nat) : Tn k 0#16 = 0#16 := by
  induction k with
  | zero => rfl
  | succ k ih => show Tn k (T 0#16) = _; rw [T_zero, ih]
theorem Tn_xor (k : Nat) : ∀ a b, Tn k (a ^^^ b) = Tn k a ^^^ Tn k b := by
  induction k with
  | zero => intro a b; rfl
  | succ k ih => intro a b; show Tn k (T (a ^^^ b)) = _; rw [T_xor, ih]; rfl
theorem Tn_inj0 (k : Nat) : ∀ a, Tn k a = 0#16 → a = 0#16 := by
  induction k with
  | zero => intro a h; exact h
  | succ k ih => intro a h; exact T_inj0 a (ih _ h)
theorem Tn_add (j k : Nat) : ∀ a, Tn (j + k) a = Tn k (Tn j a) := by
  induction j with
  | zero => intro a; rw [Nat.zero_add]; rfl
  | succ j ih => intro a; rw [show j + 1 + k = (j + k) + 1 from by omega]; exact ih (T a)
/-- One bit. -/
def bit1 (b : Bool) : BitVec 16 := if b then 0x8000#16 else 0#16
def step1 (r : BitVec 16) (b : Bool) : BitVec 16 := T (r ^^^ bit1 b)
def fold1 (r : BitVec 16) (l : List Bool) : BitVec 16 := l.foldl step1 r
/-- Bits as a word: the first one is the highest. -/
def Wd : List Bool → BitVec 16
  | [] => 0#16
  | b :: l => bit1 b ^^^ (Wd l >>> 1)
theorem bit15 : ∀ i, i < 15 → (0x8000#16).getLsbD i = false := by decide
theorem Wd_low (l : List Bool) : ∀ i, i + l.length < 16 → (Wd l).getLsbD i = false := by
  induction l with
  | nil => intro i _; simp [Wd]
  | cons b l ih =>
    intro i hi
    simp only [List.length_cons] at hi
    unfold Wd
    rw [BitVec.getLsbD_xor, BitVec.getLsbD_ushiftRight]
    have h1 : (bit1 b).getLsbD i = false := by
      cases b
      · show (0#16).getLsbD i = false
        simp
      · exact bit15 i (by omega)
    rw [h1, show 1 + i = i + 1 from by omega, ih (i + 1) (by omega)]
    rfl
/-- Up to 16 bits, read one by one: the register, laid over, and turned as often. -/
theorem fold1_word (l : List Bool) : ∀ r, l.length ≤ 16 → fold1 r l = Tn l.length (r ^^^ Wd l) := by
  induction l with
  | nil => intro r _; show r = r ^^^ 0#16; simp
  | cons b l ih =>
    intro r hl
    simp only [List.length_cons] at hl
    show fold1 (step1 r b) l = _
    rw [ih _ (by omega)]
    show Tn l.length (T (r ^^^ bit1 b) ^^^ Wd l) = Tn l.length (T (r ^^^ (bit1 b ^^^ (Wd l >>> 1))))
    congr 1
    rw [← BitVec.xor_assoc, T_xor (r ^^^ bit1 b) (Wd l >>> 1), T_low (Wd l >>> 1) (by simp [BitVec.msb_ushiftRight])]
    congr 1
    apply BitVec.eq_of_getLsbD_eq
    intro i hi
    rw [BitVec.getLsbD_shiftLeft]
    by_cases h0 : i = 0
    · subst h0
      rw [Wd_low l 0 (by omega)]; simp
    · rw [BitVec.getLsbD_ushiftRight, show 1 + (i - 1) = i from by omega]
      simp [hi, h0]
theorem fold1_append (r : BitVec 16) (a b : List Bool) : fold1 r (a ++ b) = fold1 (fold1 r a) b := List.foldl_append
/-- Two registers, the same bits. -/
theorem fold1_diff (l : List Bool) : ∀ r s, fold1 r l ^^^ fold1 s l = Tn l.length (r ^^^ s) := by
  induction l with
  | nil => intro r s; rfl
  | cons b l ih =>
    intro r s
    show fold1 (step1 r b) l ^^^ fold1 (step1 s b) l = Tn l.length (T (r ^^^ s))
    rw [ih]
    congr 1
    unfold step1
    rw [← T_xor]
    congr 1
    exact (xor3c r s (bit1 b)).symm
theorem xor_eq_zero (a b : BitVec 16) (h : a ^^^ b = 0#16) : a = b := by
  have := congrArg (fun x => x ^^^ b) h
  simpa [BitVec.xor_assoc] using this
theorem Wd_inj (l : List Bool) : ∀ m : List Bool, l.length = m.length → l.length ≤ 16 → Wd l = Wd m → l = m := by
  induction l with
  | nil => intro m h _ _; exact (List.eq_nil_of_length_eq_zero h.symm).symm
  | cons b l ih =>
    intro m h hl hw
    cases m with
    | nil => cases h
    | cons c m =>
      simp only [List.length_cons] at h hl
      have hlen : l.length = m.length := by omega
      have hb : b = c := by
        have := congrArg (fun x => x.getLsbD 15) hw
        simp only [Wd, BitVec.getLsbD_xor, BitVec.getLsbD_ushiftRight] at this
        rw [BitVec.getLsbD_of_ge _ 16 (by omega), BitVec.getLsbD_of_ge _ 16 (by omega)] at this
        cases b <;> cases c <;> simp [bit1] at this ⊢
      subst hb
      have hr : Wd l = Wd m := by
        apply BitVec.eq_of_getLsbD_eq
        intro i hi
        by_cases h0 : i = 0
        · subst h0; rw [Wd_low l 0 (by omega), Wd_low m 0 (by omega)]
        · have := congrArg (fun x => x.getLsbD (i - 1)) hw
          simp only [Wd, BitVec.getLsbD_xor, BitVec.getLsbD_ushiftRight] at this
          rw [show 1 + (i - 1) = i from by omega] at this
          cases h1 : (bit1 b).getLsbD (i - 1) <;> rw [h1] at this <;> simpa using this
      rw [ih m hlen (by omega) hr]
/-- **Bits that differ within 16 in a row leave registers that differ.** -/
theorem burst (r : BitVec 16) (p a a' q : List Bool) (h : a.length = a'.length) (h16 : a.length ≤ 16) (hne : a ≠ a') : fold1 r (p ++ a ++ q) ≠ fold1 r (p ++ a' ++ q) := by
  intro he
  rw [fold1_append, fold1_append, fold1_append _ (p ++ a'), fold1_append _ p a'] at he
  have hd := fold1_diff q (fold1 (fold1 r p) a) (fold1 (fold1 r p) a')
  rw [he, BitVec.xor_self] at hd
  have h0 := Tn_inj0 _ _ hd.symm
  rw [fold1_word a _ h16, fold1_word a' _ (by omega), ← h, ← Tn_xor] at h0
  have h1 := Tn_inj0 _ _ h0
  apply hne
  refine Wd_inj a a' h h16 (xor_eq_zero _ _ ?_)
  rw [← h1]
  ext i; simp only [BitVec.getElem_xor]; cases (fold1 r p)[i] <;> cases (Wd a)[i] <;> cases (Wd a')[i] <;> rfl
end Go.Proofs.Ytogdbccfkbbcaaa.Crc
