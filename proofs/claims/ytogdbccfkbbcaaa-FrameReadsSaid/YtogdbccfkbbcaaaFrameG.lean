/- Package frame: Encode and Decode, one contract each. -/
import Derived.Test.YtogdbccfkbbcaaaFrameD
namespace Go.Proofs.Ytogdbccfkbbcaaa
open Go.RowKit
/-- What Encode gives. -/
def encF (f : Fr) : List UInt8 × Nat := if checkE f = 0 then (encS f, 0) else ([], checkE f)
theorem encF_good {f : Fr} (h : checkE f = 0) : encF f = (encS f, 0) := by unfold encF; rw [if_pos h]
theorem encF_bad {f : Fr} (h : checkE f ≠ 0) : encF f = ([], checkE f) := by unfold encF; rw [if_neg h]
theorem encode_calls (f : Fr) (A : Option Addr) (n c : Nat) (hn : f.data.length = n) (w : World) (hs : Small f) (hr : checkE f = 0 → ∃ S, Rd B8 w S A f.data) :
    Calls Try.prog 14 #[.agg #[.int .u8 (f.kind.toNat : Int), .int .u8 (f.frm.toNat : Int), .int .u8 (f.too.toNat : Int), .int .u32 (f.sess : Int), .int .u32 (f.seq : Int), .int .u8 (f.part.toNat : Int), .int .u32 (f.off : Int), .bool f.last, .slice A n c]] w fun r w' => ∃ A' c', r = .returned (.tuple #[.slice A' (encF f).1.length c', .int .i64 ((encF f).2 : Int)]) ∧ (encF f).1.length ≤ c' ∧ Rd B8 w' (fun b => w.heap.size ≤ b) A' (encF f).1 ∧ Below w.heap.size w w' := by
  by_cases he : checkE f = 0
  · rw [encF_good he]
    obtain ⟨S, hr⟩ := hr he
    exact encode_good f A n c hn w he hs.sess hs.seq hs.off (hr.inside.weaken fun b hb => hb.2)
  · rw [encF_bad he]
    refine (encode_bad f A n c hn w he).mono ?_
    rintro r w' ⟨rfl, hb⟩
    exact ⟨none, 0, rfl, Nat.le_refl _, Rd.nil, hb⟩
theorem decode_calls (A : Option Addr) (l : List UInt8) (n c : Nat) (S : Nat → Prop) (w : World) (hn : l.length = n) (hc : n ≤ c) (hl : n ≤ 1000000) (hr : Rd B8 w S A l) :
    Calls Try.prog 11 #[.slice A n c] w fun r w' => ∃ A' c', r = .returned (.tuple #[.agg #[.int .u8 ((decF l).1.kind.toNat : Int), .int .u8 ((decF l).1.frm.toNat : Int), .int .u8 ((decF l).1.too.toNat : Int), .int .u32 ((decF l).1.sess : Int), .int .u32 ((decF l).1.seq : Int), .int .u8 ((decF l).1.part.toNat : Int), .int .u32 ((decF l).1.off : Int), .bool (decF l).1.last, .slice A' (decF l).1.data.length c'], .int .i64 ((decF l).2 : Int)]) ∧ (decF l).1.data.length ≤ c' ∧ Rd B8 w' (fun b => w.heap.size ≤ b) A' (decF l).1.data ∧ Below w.heap.size w w' := by
  by_cases h2 : n < 2
  · have hd : decF l = (Fr0, 4) := by unfold decF; rw [if_pos (by omega)]
    rw [hd]
    refine (decode_short A l n c hn w h2).mono ?_
    rintro r w' ⟨rfl, hb⟩
    exact ⟨none, 0, rfl, Nat.le_refl _, Rd.nil, hb⟩
  · obtain ⟨d, x, y, rfl⟩ := snoc_two l (by omega)
    obtain ⟨m, hm⟩ : ∃ m, d.length = m := ⟨_, rfl⟩
    have hl2 : (d ++ [x, y]).length = m + 2 := by simp [hm]
    have hx : (d ++ [x, y])[m]? = some x := by rw [List.getElem?_append_right (by omega), hm]; simp
    have hy : (d ++ [x, y])[m + 1]? = some y := by rw [List.getElem?_append_right (by omega), hm]; simp
    have ht : (d ++ [x, y]).take m = d := by rw [← hm]; simp
    obtain rfl : n = m + 2 := by omega
    rw [decF_snoc]
    by_cases h3 : sumI d = (x.toNat : Int) * 256 + (y.toNat : Int)
    · rw [if_neg (by simp [h3])]
      have h := decode_main A (d ++ [x, y]) c S w m x y hl2 hx hy (by rw [ht]; exact h3) (by omega) (by omega) hr
      rw [ht] at h
      exact h
    · rw [if_pos h3]
      refine (decode_sum A (d ++ [x, y]) c S w m x y hl2 hx hy (by rw [ht]; exact h3) (by omega) (by omega) hr).mono ?_
      rintro r w' ⟨rfl, hb⟩
      exact ⟨none, 0, rfl, Nat.le_refl _, Rd.nil, hb⟩
theorem bytesR_any (most e : Nat) (l : List UInt8) : (bytesR most e l).1.length ≤ most := by
  by_cases he : e = 0
  · subst he; exact bytesR_len _ _
  · rw [bytesR_bad _ _ _ he]; exact Nat.zero_le _
theorem restR_data (d : List UInt8) : (restR d).fr.data.length ≤ 65536 := by
  simp only [restR]
  generalize byteR _ _ = q
  exact bytesR_any 65536 q.2.1 q.2.2
theorem decR_data (r : Rest) (h : r.fr.data.length ≤ 65536) : (decR r).1.data.length ≤ 65536 := by
  unfold decR
  split
  · exact Nat.zero_le _
  · exact h
theorem decF_data (l : List UInt8) : (decF l).1.data.length ≤ 65536 := by
  unfold decF
  split
  · exact Nat.zero_le _
  · split
    · exact Nat.zero_le _
    · exact decR_data _ (restR_data _)
end Go.Proofs.Ytogdbccfkbbcaaa
