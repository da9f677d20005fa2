/- Plain laws: frames, written and read. -/
import Derived.Test.YtogdbccfkbbcaaaFrameF
import Derived.Test.YtogdbccfkbbcaaaWireLaw
import Derived.Test.YtogdbccfkbbcaaaCrcSum
namespace Go.Proofs.Ytogdbccfkbbcaaa
open Go.RowKit
def Fr0 : Fr := ⟨0, 0, 0, 0, 0, 0, 0, false, []⟩
def restR (d : List UInt8) : Rest :=
  let r1 := byteR 0 d
  let r2 := byteR r1.2.1 r1.2.2
  let r3 := byteR r2.2.1 r2.2.2
  let r4 := numR 4294967295 r3.2.1 r3.2.2
  let r5 := numR 4294967295 r4.2.1 r4.2.2
  let r6 := byteR r5.2.1 r5.2.2
  let r7 := numR 4294967295 r6.2.1 r6.2.2
  let r8 := byteR r7.2.1 r7.2.2
  let r9 := bytesR 65536 r8.2.1 r8.2.2
  ⟨⟨r1.1, r2.1, r3.1, r4.1, r5.1, r6.1, r7.1, r8.1 == 1, r9.1⟩, r8.1, r9.2.1, r9.2.2⟩
def decR (r : Rest) : Fr × Nat := if restE r ≠ 0 then (Fr0, restE r) else (r.fr, 0)
/-- What bytes are as a frame, and the error. -/
def decF (b : List UInt8) : Fr × Nat :=
  if b.length < 2 then (Fr0, 4)
  else if sumI (b.take (b.length - 2)) ≠ ((b.getD (b.length - 2) 0).toNat : Int) * 256 + ((b.getD (b.length - 1) 0).toNat : Int) then (Fr0, 5)
  else decR (restR (b.take (b.length - 2)))
theorem numR_le_any (most e : Nat) (l : List UInt8) : (numR most e l).1 ≤ most := by
  by_cases he : e = 0
  · subst he; exact numR_le most l
  · unfold numR; rw [if_pos he]; exact Nat.zero_le _
theorem byteR_cons (x : UInt8) (r : List UInt8) : byteR 0 (x :: r) = (x, 0, r) := rfl
theorem numR_var (most x : Nat) (r : List UInt8) (h : x ≤ most) (hx : x < 18446744073709551616) : numR most 0 (varL x ++ r) = (x, 0, r) := by
  unfold numR
  rw [if_neg (by simp), unvS_varL x hx r, if_neg (by simp), if_neg (by simp; omega)]
  simp [← varL_length x]
theorem bytesR_var (most : Nat) (d r : List UInt8) (h : d.length ≤ most) (hx : d.length < 18446744073709551616) : bytesR most 0 (varL d.length ++ (d ++ r)) = (d, 0, r) := by
  unfold bytesR
  rw [numR_var most d.length (d ++ r) h hx]
  rw [if_neg (by simp), if_neg (by simp)]
  simp
theorem byteR_inv {e : Nat} {l : List UInt8} {v : UInt8} {l' : List UInt8} (h : byteR e l = (v, 0, l')) : e = 0 ∧ l = v :: l' := by
  unfold byteR at h
  by_cases he : e = 0
  · rw [if_neg (by omega)] at h
    cases l with
    | nil => simp at h
    | cons x r => simp at h; exact ⟨he, by rw [h.1, h.2]⟩
  · rw [if_pos he] at h; simp at h; omega
theorem numR_inv {most e : Nat} {l : List UInt8} {v : Nat} {l' : List UInt8} (h : numR most e l = (v, 0, l')) : e = 0 ∧ l = varL v ++ l' ∧ v ≤ most ∧ v < 18446744073709551616 := by
  unfold numR at h
  by_cases he : e = 0
  · rw [if_neg (by omega)] at h
    by_cases h2 : (unvS 0 0 l).2.2 = 0
    · rw [if_neg (by omega)] at h
      by_cases h3 : most < (unvS 0 0 l).1
      · rw [if_pos h3] at h; simp at h
      · rw [if_neg h3] at h
        simp at h
        have h4 := unvS_ok l (unvS 0 0 l).1 (unvS 0 0 l).2.1 (Prod.ext rfl (Prod.ext rfl h2))
        rw [h.1, h.2] at h4
        exact ⟨he, h4.2.2, by omega, h4.1⟩
    · rw [if_pos h2] at h; simp at h; omega
  · rw [if_pos he] at h; simp at h; omega
theorem bytesR_inv {most e : Nat} {l : List UInt8} {v : List UInt8} {l' : List UInt8} (h : bytesR most e l = (v, 0, l')) : e = 0 ∧ l = varL v.length ++ (v ++ l') ∧ v.length ≤ most := by
  obtain ⟨x, k, r, hr⟩ : ∃ x k r, numR most e l = (x, k, r) := ⟨_, _, _, rfl⟩
  unfold bytesR at h
  rw [hr] at h
  by_cases h2 : k = 0
  · subst h2
    obtain ⟨h3, h4, h5, h6⟩ := numR_inv hr
    simp only [ne_eq, not_true_eq_false, if_false] at h
    by_cases h7 : r.length < x
    · rw [if_pos h7] at h; simp at h
    · rw [if_neg h7] at h
      simp at h
      have hl : v.length = x := by rw [← h.1, List.length_take]; omega
      refine ⟨h3, ?_, by omega⟩
      rw [hl, ← h.1, ← h.2, List.take_append_drop, ← h4]
  · rw [if_pos h2] at h; simp at h; exact absurd h.2.1 h2
theorem firstE_inv (a b c d : Nat) (h : firstE [a, b, c, d] = 0) : a = 0 ∧ b = 0 ∧ c = 0 ∧ d = 0 := by
  unfold firstE at h
  split at h
  · rename_i k; exact absurd h k
  · unfold firstE at h
    split at h
    · rename_i k; exact absurd h k
    · unfold firstE at h
      split at h
      · rename_i k; exact absurd h k
      · unfold firstE at h
        split at h
        · rename_i k; exact absurd h k
        · refine ⟨?_, ?_, ?_, ?_⟩ <;> omega
/-- What a frame's numbers are below. -/
structure Small (f : Fr) : Prop where
  sess : f.sess < 4294967296
  seq : f.seq < 4294967296
  off : f.off < 4294967296
theorem Fr0_small : Small Fr0 := ⟨by decide, by decide, by decide⟩
theorem restR_small (d : List UInt8) : Small (restR d).fr := ⟨Nat.lt_succ_of_le (numR_le_any _ _ _), Nat.lt_succ_of_le (numR_le_any _ _ _), Nat.lt_succ_of_le (numR_le_any _ _ _)⟩
theorem decR_small (r : Rest) (h : Small r.fr) : Small (decR r).1 := by
  unfold decR
  split
  · exact Fr0_small
  · exact h
theorem decF_small (b : List UInt8) : Small (decF b).1 := by
  unfold decF
  split
  · exact Fr0_small
  · split
    · exact Fr0_small
    · exact decR_small _ (restR_small _)
theorem bit8_inv (v : UInt8) (h : v.toNat ≤ 1) : bit8 (v == 1) = v := by
  have : v = 0 ∨ v = 1 := by
    rcases Nat.lt_or_ge v.toNat 1 with h1 | h1
    · left; apply UInt8.toNat_inj.1; simp; omega
    · right; apply UInt8.toNat_inj.1; simp; omega
  rcases this with rfl | rfl <;> rfl
theorem bit8_is (b : Bool) : (bit8 b == 1) = b := by cases b <;> rfl
theorem bit8_le (b : Bool) : (bit8 b).toNat ≤ 1 := by cases b <;> decide
/-- A frame's body, read back. -/
theorem restR_body (f : Fr) (h : Small f) (hd : f.data.length ≤ 65536) : restR (bodyS f) = ⟨f, bit8 f.last, 0, []⟩ := by
  have e : bodyS f = f.kind :: f.frm :: f.too :: (varL f.sess ++ (varL f.seq ++ (f.part :: (varL f.off ++ (bit8 f.last :: (varL f.data.length ++ (f.data ++ []))))))) := by
    simp [bodyS]
  have h1 := h.sess
  have h2 := h.seq
  have h3 := h.off
  rw [e]
  unfold restR
  simp only [byteR_cons]
  rw [numR_var _ f.sess _ (by omega) (by omega)]
  simp only
  rw [numR_var _ f.seq _ (by omega) (by omega)]
  simp only [byteR_cons]
  rw [numR_var _ f.off _ (by omega) (by omega)]
  simp only [byteR_cons]
  rw [bytesR_var _ f.data _ hd (by omega)]
  simp only [bit8_is]
theorem decR_body (f : Fr) (h : Small f) (hc : checkE f = 0) : decR (restR (bodyS f)) = (f, 0) := by
  have hd := checkE_zero f hc
  have h1 : restE (restR (bodyS f)) = 0 := by
    rw [restR_body f h hd]
    unfold restE
    simp only [hc, decide_eq_true (bit8_le f.last)]
    rfl
  unfold decR
  rw [if_neg (by omega), restR_body f h hd]
theorem decR_inv (d : List UInt8) (f : Fr) (h : decR (restR d) = (f, 0)) : checkE f = 0 ∧ d = bodyS f := by
  unfold decR at h
  by_cases h0 : restE (restR d) = 0
  · rw [if_neg (by omega)] at h
    have hf : (restR d).fr = f := by simpa using h
    subst hf
    obtain ⟨g1, g2, g3, g4⟩ := firstE_inv _ _ _ _ h0
    refine ⟨g4, ?_⟩
    have g2' : (restR d).last.toNat ≤ 1 := by
      by_cases k : (restR d).last.toNat ≤ 1
      · exact k
      · rw [decide_eq_false k] at g2; simp at g2
    have g3' : (restR d).l = [] := by
      unfold doneR at g3
      by_cases k : 0 < (restR d).l.length
      · rw [if_pos k] at g3; omega
      · exact List.eq_nil_of_length_eq_zero (by omega)
    clear g2 g3 g4 h h0
    obtain ⟨v1, e1, l1, h1⟩ : ∃ v e l', byteR 0 d = (v, e, l') := ⟨_, _, _, rfl⟩
    obtain ⟨v2, e2, l2, h2⟩ : ∃ v e l', byteR e1 l1 = (v, e, l') := ⟨_, _, _, rfl⟩
    obtain ⟨v3, e3, l3, h3⟩ : ∃ v e l', byteR e2 l2 = (v, e, l') := ⟨_, _, _, rfl⟩
    obtain ⟨v4, e4, l4, h4⟩ : ∃ v e l', numR 4294967295 e3 l3 = (v, e, l') := ⟨_, _, _, rfl⟩
    obtain ⟨v5, e5, l5, h5⟩ : ∃ v e l', numR 4294967295 e4 l4 = (v, e, l') := ⟨_, _, _, rfl⟩
    obtain ⟨v6, e6, l6, h6⟩ : ∃ v e l', byteR e5 l5 = (v, e, l') := ⟨_, _, _, rfl⟩
    obtain ⟨v7, e7, l7, h7⟩ : ∃ v e l', numR 4294967295 e6 l6 = (v, e, l') := ⟨_, _, _, rfl⟩
    obtain ⟨v8, e8, l8, h8⟩ : ∃ v e l', byteR e7 l7 = (v, e, l') := ⟨_, _, _, rfl⟩
    obtain ⟨v9, e9, l9, h9⟩ : ∃ v e l', bytesR 65536 e8 l8 = (v, e, l') := ⟨_, _, _, rfl⟩
    have hr : restR d = ⟨⟨v1, v2, v3, v4, v5, v6, v7, v8 == 1, v9⟩, v8, e9, l9⟩ := by
      simp only [restR, h1, h2, h3, h4, h5, h6, h7, h8, h9]
    rw [hr] at g1 g2' g3' ⊢
    simp only at g1 g2' g3'
    subst g1 g3'
    obtain ⟨rfl, k9, _⟩ := bytesR_inv h9
    obtain ⟨rfl, k8⟩ := byteR_inv h8
    obtain ⟨rfl, k7, _⟩ := numR_inv h7
    obtain ⟨rfl, k6⟩ := byteR_inv h6
    obtain ⟨rfl, k5, _⟩ := numR_inv h5
    obtain ⟨rfl, k4, _⟩ := numR_inv h4
    obtain ⟨rfl, k3⟩ := byteR_inv h3
    obtain ⟨rfl, k2⟩ := byteR_inv h2
    obtain ⟨_, k1⟩ := byteR_inv h1
    rw [k1, k2, k3, k4, k5, k6, k7, k8, k9]
    simp [bodyS, bit8_inv v8 g2']
  · rw [if_pos h0] at h
    simp at h
    exact absurd h.2 h0
theorem seal_two (l : List UInt8) : ∃ x y : UInt8, sealB l = [x, y] ∧ sumI l = (x.toNat : Int) * 256 + (y.toNat : Int) := by
  have := sumI_rng l
  refine ⟨_, _, rfl, ?_⟩
  rw [UInt8.toNat_ofNat', UInt8.toNat_ofNat']
  omega
/-- Two bytes that a sum is, are the seal. -/
theorem seal_is (l : List UInt8) (x y : UInt8) (h : sumI l = (x.toNat : Int) * 256 + (y.toNat : Int)) : sealB l = [x, y] := by
  obtain ⟨a, b, h1, h2⟩ := seal_two l
  rw [h1]
  have hx := x.toNat_lt
  have hy := y.toNat_lt
  have ha := a.toNat_lt
  have hb := b.toNat_lt
  rw [h] at h2
  have e1 : x = a := by apply UInt8.toNat_inj.1; omega
  have e2 : y = b := by apply UInt8.toNat_inj.1; omega
  rw [e1, e2]
theorem two_last (l : List UInt8) (x y : UInt8) : (l ++ [x, y]).length = l.length + 2 ∧ (l ++ [x, y]).take ((l ++ [x, y]).length - 2) = l ∧ (l ++ [x, y]).getD ((l ++ [x, y]).length - 2) 0 = x ∧ (l ++ [x, y]).getD ((l ++ [x, y]).length - 1) 0 = y := by
  have h : (l ++ [x, y]).length = l.length + 2 := by simp
  refine ⟨h, ?_, ?_, ?_⟩
  · rw [h]; simp
  · rw [h]; simp [List.getD]
  · rw [h]; simp [List.getD]
theorem decF_snoc (l : List UInt8) (x y : UInt8) : decF (l ++ [x, y]) = if sumI l ≠ (x.toNat : Int) * 256 + (y.toNat : Int) then (Fr0, 5) else decR (restR l) := by
  obtain ⟨h1, h2, h3, h4⟩ := two_last l x y
  unfold decF
  rw [if_neg (by omega), h2, h3, h4]
theorem snoc_two (b : List UInt8) (h : 2 ≤ b.length) : ∃ l x y, b = l ++ [x, y] := by
  have h2 : (b.drop (b.length - 2)).length = 2 := by rw [List.length_drop]; omega
  match hd : b.drop (b.length - 2), h2 with
  | [x, y], _ => exact ⟨b.take (b.length - 2), x, y, by rw [← hd, List.take_append_drop]⟩
/-- **A frame is decoded from its code.** -/
theorem decF_enc (f : Fr) (h : Small f) (hc : checkE f = 0) : decF (encS f) = (f, 0) := by
  obtain ⟨x, y, h1, h2⟩ := seal_two (bodyS f)
  unfold encS
  rw [h1, decF_snoc, if_neg (by simp [h2]), decR_body f h hc]
/-- **Bytes that are decoded are a code.** -/
theorem enc_decF (b : List UInt8) (f : Fr) (h : decF b = (f, 0)) : checkE f = 0 ∧ encS f = b := by
  by_cases h2 : b.length < 2
  · unfold decF at h; rw [if_pos h2] at h; simp at h
  · obtain ⟨l, x, y, rfl⟩ := snoc_two b (by omega)
    rw [decF_snoc] at h
    by_cases h3 : sumI l = (x.toNat : Int) * 256 + (y.toNat : Int)
    · rw [if_neg (by simp [h3])] at h
      obtain ⟨h4, h5⟩ := decR_inv l f h
      refine ⟨h4, ?_⟩
      subst h5
      unfold encS
      rw [seal_is _ x y h3]
    · rw [if_pos h3] at h; simp at h
theorem szS_le (x k : Nat) (hx : x < 2 ^ (7 * k)) (hk : 1 ≤ k) (h64 : x < 18446744073709551616) : szS x ≤ k := by
  obtain ⟨_, h⟩ := szS_spec x h64
  rcases h with h | h
  · omega
  · have := pow_lt_iff (Nat.lt_of_le_of_lt h hx)
    omega
theorem encS_length (f : Fr) (h : Small f) (hc : checkE f = 0) : (encS f).length ≤ f.data.length + 26 ∧ 2 ≤ (encS f).length := by
  have hd := checkE_zero f hc
  have h1 := h.sess
  have h2 := h.seq
  have h3 := h.off
  have s1 := szS_le f.sess 5 (by omega) (by omega) (by omega)
  have s2 := szS_le f.seq 5 (by omega) (by omega) (by omega)
  have s3 := szS_le f.off 5 (by omega) (by omega) (by omega)
  have s4 := szS_le f.data.length 3 (by omega) (by omega) (by omega)
  simp only [encS, sealB, bodyS, List.length_append, List.length_cons, List.length_nil, varL_length]
  omega
end Go.Proofs.Ytogdbccfkbbcaaa
