/- The walks of package wire: bytes that a cursor reads; the other questions to a cursor. -/
import Derived.Test.YtogdbccfkbbcaaaCursorN
namespace Go.Proofs.Ytogdbccfkbbcaaa
open Go.RowKit
variable {D : Nat}
/-- A row that is written lies in new blocks. -/
theorem grown_new {a b c : World} {row row' : Option Nat} (h : a.grownBy b row) (k : b.grownBy c row') (hn : ∀ i, row' = some i → a.heap.size ≤ i) : a.grownBy c row :=
  ⟨k.os.trans h.os, k.tape.trans h.tape, k.output.trans h.output, Nat.le_trans h.size k.size, fun i hi hne => (k.block i (Nat.lt_of_lt_of_le hi h.size) (fun e => by have := hn i e.symm; omega)).trans (h.block i hi hne)⟩
theorem numR_le (most : Nat) (l : List UInt8) : (numR most 0 l).1 ≤ most := by
  unfold numR
  rw [if_neg (by omega)]
  split
  · exact Nat.zero_le _
  split
  · exact Nat.zero_le _
  · simp only; omega
set_option maxRecDepth 100000 in
theorem bytes1_calls (p q most : Nat) (l : List UInt8) (w : World) (hc : Cur w D p 0 l) (hm : most ≤ 140737488351232) (hq : w.cell? ⟨q, 0, none⟩ = some (.int .i64 (most : Int))) :
    Calls Try.prog 72 #[.pointer (some ⟨p, 0, none⟩), .pointer (some ⟨q, 0, none⟩)] w fun e w' => ∃ A c n, e = .returned (.slice A n c) ∧ ((bytesR most 0 l).2.1 = 0 → n = (bytesR most 0 l).1.length ∧ n ≤ c ∧ Rd B8 w' (fun b => w.heap.size ≤ b) A (bytesR most 0 l).1) ∧ Cur w' D p (bytesR most 0 l).2.1 (bytesR most 0 l).2.2 ∧ w.grownBy w' (some p) := by
  obtain ⟨i0, hi, hz0, hz1, hz2⟩ := info_parts info5
  have hlt := hc.lt
  have hx : (numR most 0 l).1 ≤ most := numR_le most l
  have hmx : max (most : Int) 0 = (most : Int) := by omega
  go_enter Try.func72, Try.ntmps72
  go_wp2_with fail
  refine (num_reads p 0 most l _ hc).mono ?_
  rintro e w1 ⟨rfl, hc1, hg⟩
  have HG := Lib.hid hg
  clear hg
  go_wp2_with fail
  refine (well_calls p _ _ _ hc1).mono ?_
  rintro e1 w2 ⟨rfl, rfl⟩
  by_cases he : (numR most 0 l).2.1 = 0
  · have ht : (((numR most 0 l).2.1 : Int) == 0) = true := by simp; omega
    by_cases hlen : (numR most 0 l).2.2.length < (numR most 0 l).1
    · have hR : Hid (bytesR most 0 l = ([], 4, [])) := by
        show _ = _
        unfold bytesR; rw [if_neg (by omega), if_pos hlen]
      have hc1' := hc1
      rw [he] at hc1'
      clear he
      have hB : Below w1.heap.size w1 (w1.alloc (.cells #[] 5)) := (Below.refl _ _).alloc (Nat.le_refl _) _
      go_wp2_with fail
      refine (take_short p _ _ _ hlen (hc1'.below hB)).mono ?_
      rintro e w2 ⟨rfl, hc2, hg2⟩
      have HG2 := Lib.hid ((HG.out.trans (grown_of_below hB _)).trans hg2)
      have hs2 := HG2.out.size
      clear hg2
      go_wp2_with (at_builtin; refine wpList_append_copy _ rfl (.tmp 13) (.tmp 17) 36 rfl (enc := B8) (S := fun _ => True) 5 i0 (.int .u8 0) 1 Try.underlying36 hi hz0 hz1 hz2 rfl _ rfl none 0 0 [] rfl rfl Rd.nil ?c4 ?c5 ?_)
      case c4 => unfold maxLen; omega
      case c5 => omega
      intro A' c' w3 hrd hB3
      have hc3 := hc2.below hB3
      have HG3 := Lib.hid (HG2.out.trans (grown_of_below hB3 _))
      clear hB3 hrd
      go_wp2
      go_ret
      exact ⟨_, _, _, rfl, (by rw [hR.out]; intro h; cases h), by rw [hR.out]; exact hc3, HG3.out⟩
    · have hR : Hid (bytesR most 0 l = ((numR most 0 l).2.2.take (numR most 0 l).1, 0, (numR most 0 l).2.2.drop (numR most 0 l).1)) := by
        show _ = _
        unfold bytesR; rw [if_neg (by omega), if_neg hlen]
      have hc1' := hc1
      rw [he] at hc1'
      clear he
      have hB : Below w1.heap.size w1 (w1.alloc (.cells #[] 5)) := (Below.refl _ _).alloc (Nat.le_refl _) _
      go_wp2_with fail
      refine (take_calls p _ _ _ (by omega) (hc1'.below hB)).mono ?_
      rintro e w2 ⟨A2, rfl, hr2, hc2, hg2⟩
      have HG2 := Lib.hid ((HG.out.trans (grown_of_below hB _)).trans hg2)
      have hs2 := HG2.out.size
      have hl2 : ((numR most 0 l).2.2.take (numR most 0 l).1).length = (numR most 0 l).1 := by rw [List.length_take]; omega
      have HL2 := Lib.hid hl2
      clear hg2 hl2
      go_wp2_with (at_builtin; refine wpList_append_copy _ rfl (.tmp 13) (.tmp 17) 36 rfl (enc := B8) (S := fun b => b ≠ p ∧ b < D) 5 i0 (.int .u8 0) 1 Try.underlying36 hi hz0 hz1 hz2 rfl _ rfl A2 _ _ ((numR most 0 l).2.2.take (numR most 0 l).1) rfl HL2.out hr2 ?c4 ?c5 ?_)
      case c4 => unfold maxLen; omega
      case c5 => omega
      intro A' c' w3 hle hrd hB3
      have hc3 := hc2.below hB3
      have HG3 := Lib.hid (HG2.out.trans (grown_of_below hB3 _))
      clear hB3
      go_wp2
      go_ret
      exact ⟨_, _, _, rfl, by rw [hR.out]; intro _; exact ⟨HL2.out.symm, hle, hrd.weaken (fun b hb => by omega)⟩, by rw [hR.out]; exact hc3, HG3.out⟩
  · have ht : (((numR most 0 l).2.1 : Int) == 0) = false := by simp; omega
    have hR : Hid (bytesR most 0 l = ([], (numR most 0 l).2.1, (numR most 0 l).2.2)) := by
      show _ = _
      unfold bytesR; rw [if_pos he]
    have HE := Lib.hid he
    clear he
    go_wp2
    go_ret
    exact ⟨_, _, _, rfl, by rw [hR.out]; intro h; exact absurd h HE.out, by rw [hR.out]; exact hc1, HG.out⟩
theorem bytesR_bad (most e : Nat) (l : List UInt8) (he : e ≠ 0) : bytesR most e l = ([], e, l) := by
  have h : numR most e l = (0, e, l) := by unfold numR; rw [if_pos he]
  unfold bytesR
  rw [h, if_pos he]
theorem bytesR_err (most : Nat) (l : List UInt8) (h : (bytesR most 0 l).2.1 ≠ 0) : (bytesR most 0 l).1 = [] := by
  unfold bytesR at h ⊢
  split
  · rfl
  · rename_i h1
    rw [if_neg h1] at h
    split
    · rfl
    · rename_i h2
      rw [if_neg h2] at h
      exact absurd rfl h
theorem bytesR_len (most : Nat) (l : List UInt8) : (bytesR most 0 l).1.length ≤ most := by
  have := numR_le most l
  unfold bytesR
  split
  · exact Nat.zero_le _
  split
  · exact Nat.zero_le _
  · simp only [List.length_take]; omega
theorem bytes_reads (p e most : Nat) (l : List UInt8) (w : World) (hc : Cur w D p e l) (hm : most ≤ 140737488351232) :
    Calls Try.prog 32 #[.pointer (some ⟨p, 0, none⟩), .int .i64 (most : Int)] w fun e' w' => ∃ A c, e' = .returned (.slice A (bytesR most e l).1.length c) ∧ (bytesR most e l).1.length ≤ c ∧ Rd B8 w' (fun b => w.heap.size ≤ b) A (bytesR most e l).1 ∧
      Cur w' D p (bytesR most e l).2.1 (bytesR most e l).2.2 ∧ w.grownBy w' (some p) := by
  have hB : Below w.heap.size w (w.alloc (.cells #[.int .i64 (most : Int)] 3)) := (Below.refl _ _).alloc (Nat.le_refl _) _
  have hc1 := hc.below hB
  have hq := (Blk.new w 3 #[.int .i64 (most : Int)]).cell 0
  have HB := Lib.hid hB
  by_cases he : e = 0
  · subst he
    have H : Calls Try.prog 71 #[.pointer (some ⟨p, 0, none⟩), .func (.func 72) #[] #[.pointer (some ⟨w.heap.size, 0, none⟩)]] (w.alloc (.cells #[.int .i64 (most : Int)] 3)) fun e' w' => ∃ A c, e' = .returned (.slice A (bytesR most 0 l).1.length c) ∧ (bytesR most 0 l).1.length ≤ c ∧ Rd B8 w' (fun b => w.heap.size ≤ b) A (bytesR most 0 l).1 ∧
      Cur w' D p (bytesR most 0 l).2.1 (bytesR most 0 l).2.2 ∧ w.grownBy w' (some p) := by
      have H1 := bytes1_calls p w.heap.size most l _ hc1 hm hq
      have HE := Lib.hid (bytesR_err most l)
      clear hB hq
      go_enter Try.func71, Try.ntmps71
      go_wp2_with fail
      refine (well_calls p 0 l _ hc1).mono ?_
      rintro e1 w1 ⟨rfl, rfl⟩
      go_wp2_with fail
      refine H1.mono ?_
      rintro e w1 ⟨A, c, n, rfl, hok, hc2, hg⟩
      have HG := Lib.hid ((grown_of_below HB.out (some p)).trans hg)
      have HO := Lib.hid hok
      clear hg hok
      go_wp2_with fail
      refine (well_calls p _ _ _ hc2).mono ?_
      rintro e1 w2 ⟨rfl, rfl⟩
      by_cases he : (bytesR most 0 l).2.1 = 0
      · have ht : (((bytesR most 0 l).2.1 : Int) == 0) = true := by simp; omega
        obtain ⟨rfl, h1, h2⟩ := HO.out he
        clear he
        go_wp2
        go_ret
        exact ⟨_, _, rfl, h1, h2.weaken (fun b hb => by simp at hb; omega), hc2, HG.out⟩
      · have ht : (((bytesR most 0 l).2.1 : Int) == 0) = false := by simp; omega
        have hn := Lib.hid (HE.out he)
        clear he
        go_wp2
        go_ret
        exact ⟨none, 0, by rw [hn.out]; rfl, by rw [hn.out]; exact Nat.le_refl _, by rw [hn.out]; exact Rd.nil, hc2, HG.out⟩
    have HH := Lib.hid H
    clear H hB hq hc1
    go_enter Try.func32, Try.ntmps32
    go_wp2_with fail
    refine HH.out.mono ?_
    rintro e w1 ⟨A, c, rfl, h1, h2, hc2, hg⟩
    have HG := Lib.hid hg
    clear hg
    go_wp2
    go_ret
    exact ⟨_, _, rfl, h1, h2, hc2, HG.out⟩
  · rw [bytesR_bad most e l he]
    have ht : ((e : Int) == 0) = false := by simp; omega
    have HG := Lib.hid (grown_of_below hB (some p))
    clear hq hB HB he
    go_enter Try.func32, Try.ntmps32
    go_wp2_with fail
    go_in
    go_wp2_with fail
    refine (well_calls p e l _ hc1).mono ?_
    rintro e1 w1 ⟨rfl, rfl⟩
    go_wp2
    go_ret
    exact ⟨none, 0, rfl, Nat.le_refl _, Rd.nil, hc1, HG.out⟩
theorem left_calls (p e : Nat) (l : List UInt8) (w : World) (hc : Cur w D p e l) :
    Calls Try.prog 75 #[.pointer (some ⟨p, 0, none⟩)] w fun e' w' => e' = .returned (.int .i64 l.length) ∧ w = w' := by
  obtain ⟨A, c, hb, _⟩ := hc
  have hc1 := hb.cell 1
  simp at hc1
  go_enter Try.func75, Try.ntmps75
  go_wp2
  go_ret
  exact ⟨rfl, rfl⟩
theorem errof_calls (p e : Nat) (l : List UInt8) (w : World) (hc : Cur w D p e l) :
    Calls Try.prog 34 #[.pointer (some ⟨p, 0, none⟩)] w fun e' w' => e' = .returned (.int .i64 (e : Int)) ∧ w = w' := by
  obtain ⟨A, c, hb, _⟩ := hc
  have hc0 := hb.cell 0
  simp at hc0
  go_enter Try.func34, Try.ntmps34
  go_wp2
  go_ret
  exact ⟨rfl, rfl⟩
/-- Done, of a cursor. -/
def doneR (e : Nat) (l : List UInt8) : Nat := if 0 < l.length then 3 else e
theorem done_calls (p e : Nat) (l : List UInt8) (w : World) (hc : Cur w D p e l) :
    Calls Try.prog 37 #[.pointer (some ⟨p, 0, none⟩)] w fun e' w' => e' = .returned (.int .i64 (doneR e l : Int)) ∧ w = w' := by
  by_cases h : 0 < l.length
  · have hd : Hid (doneR e l = 3) := by show _ = _; unfold doneR; rw [if_pos h]
    go_enter Try.func37, Try.ntmps37
    go_wp2_with fail
    refine (left_calls p e l _ hc).mono ?_
    rintro e1 w1 ⟨rfl, rfl⟩
    go_wp2
    go_ret
    exact ⟨by rw [hd.out]; rfl, rfl⟩
  · have hd : Hid (doneR e l = e) := by show _ = _; unfold doneR; rw [if_neg h]
    go_enter Try.func37, Try.ntmps37
    go_wp2_with fail
    refine (left_calls p e l _ hc).mono ?_
    rintro e1 w1 ⟨rfl, rfl⟩
    go_wp2_with fail
    refine (errof_calls p e l _ hc).mono ?_
    rintro e1 w1 ⟨rfl, rfl⟩
    go_wp2
    go_ret
    exact ⟨by rw [hd.out]; rfl, rfl⟩
set_option maxRecDepth 100000 in
theorem from_calls (A : Option Addr) (l : List UInt8) (n c : Nat) (S : Nat → Prop) (w : World) (hn : l.length = n) (hl : n ≤ 1000000) (hr : Rd B8 w S A l) :
    Calls Try.prog 27 #[.slice A n c] w fun e w' => ∃ p, e = .returned (.pointer (some ⟨p, 0, none⟩)) ∧ w.heap.size ≤ p ∧ Cur w' w'.heap.size p 0 l ∧ Below w.heap.size w w' := by
  obtain ⟨i0, hi, hz0, hz1, hz2⟩ := info_parts info5
  have HN := Lib.hid hn
  clear hn
  go_enter Try.func27, Try.ntmps27
  go_wp2_with (at_builtin; refine wpList_append_copy _ rfl (.tmp 3) (.tmp 4) 36 rfl (enc := B8) (S := S) 5 i0 (.int .u8 0) 1 Try.underlying36 hi hz0 hz1 hz2 rfl _ rfl A n c l rfl HN.out (hr.alloc _) ?c4 ?c5 ?_)
  case c4 => unfold maxLen; omega
  case c5 => omega
  intro A' c' w3 hle hrd hB3
  have hB : Below w.heap.size w w3 := ((Below.refl _ _).alloc (Nat.le_refl _) _).trans (hB3.mono (by omega))
  have HB := Lib.hid hB
  have hs := hB3.size
  simp only [World.size_alloc] at hs
  clear hB hB3
  go_wp2
  go_ret
  have hl1 := HN.out
  subst hl1
  exact ⟨w3.heap.size, rfl, by omega, ⟨A', c', Blk.new _ _ _, hle, by omega, ((hrd.inside.alloc _).weaken (fun b hb => by have := hb.2; constructor; omega; simp; omega))⟩, HB.out.alloc HB.out.size _⟩
end Go.Proofs.Ytogdbccfkbbcaaa
