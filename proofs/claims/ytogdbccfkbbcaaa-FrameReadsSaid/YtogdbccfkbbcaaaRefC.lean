/- The walks of the reference's frames: Check, Room, Same; and frame.Size. -/
import Derived.Test.YtogdbccfkbbcaaaFrameG
import Derived.Test.YtogdbccfkbbcaaaSameW
namespace Go.Proofs.Ytogdbccfkbbcaaa
open Go.RowKit
set_option linter.unusedSimpArgs false
theorem checkE_14 (f : Fr) (hk : f.kind.toNat < 1 ∨ 3 < f.kind.toNat) : checkE f = 14 := by
  have h : kindB f = false := by unfold kindB; rcases hk with h | h <;> simp <;> omega
  unfold checkE; rw [h]; rfl
theorem checkE_1 (f : Fr) (hk : ¬ (f.kind.toNat < 1 ∨ 3 < f.kind.toNat)) (he : 16 ≤ f.frm.toNat ∨ 16 ≤ f.too.toNat ∨ f.frm = f.too) : checkE f = 1 := by
  have h : kindB f = true := by unfold kindB; simp; omega
  have h2 : endsB f = false := by
    unfold endsB
    rcases he with h | h | h
    · simp; omega
    · simp; omega
    · simp [h]
  unfold checkE; rw [h, h2]; rfl
theorem checkE_15 (f : Fr) (hk : ¬ (f.kind.toNat < 1 ∨ 3 < f.kind.toNat)) (he : ¬ (16 ≤ f.frm.toNat ∨ 16 ≤ f.too.toNat ∨ f.frm = f.too)) : checkE f = if 65536 < f.data.length then 15 else 0 := by
  have h : kindB f = true := by unfold kindB; simp; omega
  have hne : f.frm.toNat ≠ f.too.toNat := fun h => he (.inr (.inr (UInt8.toNat_inj.1 h)))
  have h2 : endsB f = true := by
    unfold endsB
    simp
    omega
  unfold checkE; rw [h, h2]
  by_cases h3 : 65536 < f.data.length
  · have : sizeB f = false := by unfold sizeB; simp; omega
    rw [this, if_pos h3]; rfl
  · have : sizeB f = true := by unfold sizeB; simp; omega
    rw [this, if_neg h3]; rfl
theorem rcheck_calls (f : Fr) (A : Option Addr) (n c : Nat) (hn : f.data.length = n) (w : World) :
    Calls Try.prog 19 #[.agg #[.int .u8 (f.kind.toNat : Int), .int .u8 (f.frm.toNat : Int), .int .u8 (f.too.toNat : Int), .int .u32 (f.sess : Int), .int .u32 (f.seq : Int), .int .u8 (f.part.toNat : Int), .int .u32 (f.off : Int), .bool f.last, .slice A n c]] w fun r w' => r = .returned (.int .i64 (checkE f : Int)) ∧ Below w.heap.size w w' := by
  have HB : Hid (Below w.heap.size w (w.alloc (.cells #[.int .u8 (f.kind.toNat : Int), .int .u8 (f.frm.toNat : Int), .int .u8 (f.too.toNat : Int), .int .u32 (f.sess : Int), .int .u32 (f.seq : Int), .int .u8 (f.part.toNat : Int), .int .u32 (f.off : Int), .bool f.last, .slice A n c] 38))) := (Below.refl _ _).alloc (Nat.le_refl _) _
  by_cases hk : f.kind.toNat < 1 ∨ 3 < f.kind.toNat
  · have HC := Lib.hid (checkE_14 f hk)
    have h3 : decide ((f.kind.toNat : Int) < 1) = true ∨ (decide ((f.kind.toNat : Int) < 1) = false ∧ decide ((f.kind.toNat : Int) > 3) = true) := by
      simp only [decide_eq_true_eq, decide_eq_false_iff_not]; omega
    clear hk
    rcases h3 with d1 | ⟨d1, d2⟩ <;>
    · go_enter Try.func19, Try.ntmps19
      go_wp2
      go_ret
      exact ⟨by rw [HC.out]; rfl, HB.out⟩
  · have d1 : decide ((f.kind.toNat : Int) < 1) = false := by simp; omega
    have d2 : decide ((f.kind.toNat : Int) > 3) = false := by simp; omega
    by_cases he : 16 ≤ f.frm.toNat ∨ 16 ≤ f.too.toNat ∨ f.frm = f.too
    · have HC := Lib.hid (checkE_1 f hk he)
      have h3 : decide ((f.frm.toNat : Int) ≥ 16) = true ∨ (decide ((f.frm.toNat : Int) ≥ 16) = false ∧ decide ((f.too.toNat : Int) ≥ 16) = true) ∨ (decide ((f.frm.toNat : Int) ≥ 16) = false ∧ decide ((f.too.toNat : Int) ≥ 16) = false ∧ ((f.frm.toNat : Int) == (f.too.toNat : Int)) = true) := by
        simp only [decide_eq_true_eq, decide_eq_false_iff_not, beq_iff_eq]
        rcases he with h | h | h
        · omega
        · omega
        · rw [h]; omega
      clear hk he
      rcases h3 with d3 | ⟨d3, d4⟩ | ⟨d3, d4, d5⟩ <;>
      · go_enter Try.func19, Try.ntmps19
        go_wp2
        go_ret
        exact ⟨by rw [HC.out]; rfl, HB.out⟩
    · have HC := Lib.hid (checkE_15 f hk he)
      rw [hn] at HC
      have hne : f.frm.toNat ≠ f.too.toNat := fun h => he (.inr (.inr (UInt8.toNat_inj.1 h)))
      have d3 : decide ((f.frm.toNat : Int) ≥ 16) = false := by simp; omega
      have d4 : decide ((f.too.toNat : Int) ≥ 16) = false := by simp; omega
      have d5 : ((f.frm.toNat : Int) == (f.too.toNat : Int)) = false := by simp; omega
      clear hk he hne hn
      by_cases hs : 65536 < n
      · have d6 : decide ((n : Int) > 65536) = true := by simp; omega
        rw [if_pos hs] at HC
        clear hs
        go_enter Try.func19, Try.ntmps19
        go_wp2
        go_ret
        exact ⟨by rw [HC.out]; rfl, HB.out⟩
      · have d6 : decide ((n : Int) > 65536) = false := by simp; omega
        rw [if_neg hs] at HC
        clear hs
        go_enter Try.func19, Try.ntmps19
        go_wp2
        go_ret
        exact ⟨by rw [HC.out]; rfl, HB.out⟩
theorem rroom_calls (b : Int) (w : World) (h1 : -9223372036854775808 ≤ b) (h2 : b ≤ 9223372036854775807) :
    Calls Try.prog 22 #[.int .i64 b] w fun r w' => r = .returned (.int .i64 (if b < 32 then 0 else min (b - 26) 65536)) ∧ w = w' := by
  by_cases h : b < 32
  · have hd : decide (b < 32) = true := by simp; omega
    rw [if_pos h]
    go_enter Try.func22, Try.ntmps22
    go_wp2
    go_ret
    exact ⟨rfl, rfl⟩
  · have hd : decide (b < 32) = false := by simp; omega
    rw [if_neg h]
    have hw : IntKind.i64.wrap (b - 26) = b - 26 := IntWalk.i64_in _ ⟨by omega, by omega⟩
    go_enter Try.func22, Try.ntmps22
    go_wp2
    go_ret
    exact ⟨rfl, rfl⟩
theorem size_frame_calls (f : Fr) (A : Option Addr) (n c : Nat) (hn : f.data.length = n) (w : World) (hs : Small f) (hr : Rd B8 w (fun _ => True) A f.data) :
    Calls Try.prog 20 #[.agg #[.int .u8 (f.kind.toNat : Int), .int .u8 (f.frm.toNat : Int), .int .u8 (f.too.toNat : Int), .int .u32 (f.sess : Int), .int .u32 (f.seq : Int), .int .u8 (f.part.toNat : Int), .int .u32 (f.off : Int), .bool f.last, .slice A n c]] w fun r w' => r = .returned (.int .i64 ((encF f).1.length : Int)) ∧ Below w.heap.size w w' := by
  have hr0 := hr.alloc (.cells #[.int .u8 (f.kind.toNat : Int), .int .u8 (f.frm.toNat : Int), .int .u8 (f.too.toNat : Int), .int .u32 (f.sess : Int), .int .u32 (f.seq : Int), .int .u8 (f.part.toNat : Int), .int .u32 (f.off : Int), .bool f.last, .slice A n c] 38)
  have hB0 : Below w.heap.size w (w.alloc (.cells #[.int .u8 (f.kind.toNat : Int), .int .u8 (f.frm.toNat : Int), .int .u8 (f.too.toNat : Int), .int .u32 (f.sess : Int), .int .u32 (f.seq : Int), .int .u8 (f.part.toNat : Int), .int .u32 (f.off : Int), .bool f.last, .slice A n c] 38)) := (Below.refl _ _).alloc (Nat.le_refl _) _
  have HN := Lib.hid hn
  clear hn hr
  go_enter Try.func20, Try.ntmps20
  have hb0 := Blk.new w 38 #[.int .u8 (f.kind.toNat : Int), .int .u8 (f.frm.toNat : Int), .int .u8 (f.too.toNat : Int), .int .u32 (f.sess : Int), .int .u32 (f.seq : Int), .int .u8 (f.part.toNat : Int), .int .u32 (f.off : Int), .bool f.last, .slice A n c]
  obtain ⟨y0, y1, y2, y3, y4, y5, y6, y7, y8⟩ := frCells hb0
  go_wp2_with fail
  clear y0 y1 y2 y3 y4 y5 y6 y7 y8 hb0
  generalize w.alloc (.cells #[.int .u8 (f.kind.toNat : Int), .int .u8 (f.frm.toNat : Int), .int .u8 (f.too.toNat : Int), .int .u32 (f.sess : Int), .int .u32 (f.seq : Int), .int .u8 (f.part.toNat : Int), .int .u32 (f.off : Int), .bool f.last, .slice A n c] 38) = W0 at hr0 hB0 ⊢
  refine (encode_calls f A n c HN.out W0 hs (fun _ => ⟨_, hr0⟩)).mono ?_
  rintro r W1 ⟨A1, c1, rfl, hc1, hr1, hb1⟩
  have HB1 := Lib.hid (hB0.trans (hb1.mono hB0.size))
  clear hb1 hB0 hr0 hr1
  go_wp2
  go_ret
  exact ⟨rfl, HB1.out⟩
set_option maxHeartbeats 4000000 in
set_option maxRecDepth 100000 in
theorem rfsame_calls (f g : Fr) (A A' : Option Addr) (n n' c c' : Nat) (S S' : Nat → Prop) (w : World) (hn : f.data.length = n) (hn' : g.data.length = n') (h63 : n ≤ 1000000) (hr : Rd B8 w S A f.data) (hr' : Rd B8 w S' A' g.data) :
    Calls Try.prog 13 #[.agg #[.int .u8 (f.kind.toNat : Int), .int .u8 (f.frm.toNat : Int), .int .u8 (f.too.toNat : Int), .int .u32 (f.sess : Int), .int .u32 (f.seq : Int), .int .u8 (f.part.toNat : Int), .int .u32 (f.off : Int), .bool f.last, .slice A n c], .agg #[.int .u8 (g.kind.toNat : Int), .int .u8 (g.frm.toNat : Int), .int .u8 (g.too.toNat : Int), .int .u32 (g.sess : Int), .int .u32 (g.seq : Int), .int .u8 (g.part.toNat : Int), .int .u32 (g.off : Int), .bool g.last, .slice A' n' c']] w fun r w' => r = .returned (.bool (sameF f g)) ∧ Below w.heap.size w w' := by
  have hb := Blk.alloc (Blk.new w 38 #[.int .u8 (f.kind.toNat : Int), .int .u8 (f.frm.toNat : Int), .int .u8 (f.too.toNat : Int), .int .u32 (f.sess : Int), .int .u32 (f.seq : Int), .int .u8 (f.part.toNat : Int), .int .u32 (f.off : Int), .bool f.last, .slice A n c]) (.cells #[.int .u8 (g.kind.toNat : Int), .int .u8 (g.frm.toNat : Int), .int .u8 (g.too.toNat : Int), .int .u32 (g.sess : Int), .int .u32 (g.seq : Int), .int .u8 (g.part.toNat : Int), .int .u32 (g.off : Int), .bool g.last, .slice A' n' c'] 38)
  have hb' := Blk.new (w.alloc (.cells #[.int .u8 (f.kind.toNat : Int), .int .u8 (f.frm.toNat : Int), .int .u8 (f.too.toNat : Int), .int .u32 (f.sess : Int), .int .u32 (f.seq : Int), .int .u8 (f.part.toNat : Int), .int .u32 (f.off : Int), .bool f.last, .slice A n c] 38)) 38 #[.int .u8 (g.kind.toNat : Int), .int .u8 (g.frm.toNat : Int), .int .u8 (g.too.toNat : Int), .int .u32 (g.sess : Int), .int .u32 (g.seq : Int), .int .u8 (g.part.toNat : Int), .int .u32 (g.off : Int), .bool g.last, .slice A' n' c']
  rw [World.size_alloc] at hb'
  have hB : Below w.heap.size w ((w.alloc (.cells #[.int .u8 (f.kind.toNat : Int), .int .u8 (f.frm.toNat : Int), .int .u8 (f.too.toNat : Int), .int .u32 (f.sess : Int), .int .u32 (f.seq : Int), .int .u8 (f.part.toNat : Int), .int .u32 (f.off : Int), .bool f.last, .slice A n c] 38)).alloc (.cells #[.int .u8 (g.kind.toNat : Int), .int .u8 (g.frm.toNat : Int), .int .u8 (g.too.toNat : Int), .int .u32 (g.sess : Int), .int .u32 (g.seq : Int), .int .u8 (g.part.toNat : Int), .int .u32 (g.off : Int), .bool g.last, .slice A' n' c'] 38)) := ((Below.refl _ _).alloc (Nat.le_refl _) _).alloc (by simp) _
  have hr2 := (hr.alloc (.cells #[.int .u8 (f.kind.toNat : Int), .int .u8 (f.frm.toNat : Int), .int .u8 (f.too.toNat : Int), .int .u32 (f.sess : Int), .int .u32 (f.seq : Int), .int .u8 (f.part.toNat : Int), .int .u32 (f.off : Int), .bool f.last, .slice A n c] 38)).alloc (.cells #[.int .u8 (g.kind.toNat : Int), .int .u8 (g.frm.toNat : Int), .int .u8 (g.too.toNat : Int), .int .u32 (g.sess : Int), .int .u32 (g.seq : Int), .int .u8 (g.part.toNat : Int), .int .u32 (g.off : Int), .bool g.last, .slice A' n' c'] 38)
  have hr2' := (hr'.alloc (.cells #[.int .u8 (f.kind.toNat : Int), .int .u8 (f.frm.toNat : Int), .int .u8 (f.too.toNat : Int), .int .u32 (f.sess : Int), .int .u32 (f.seq : Int), .int .u8 (f.part.toNat : Int), .int .u32 (f.off : Int), .bool f.last, .slice A n c] 38)).alloc (.cells #[.int .u8 (g.kind.toNat : Int), .int .u8 (g.frm.toNat : Int), .int .u8 (g.too.toNat : Int), .int .u32 (g.sess : Int), .int .u32 (g.seq : Int), .int .u8 (g.part.toNat : Int), .int .u32 (g.off : Int), .bool g.last, .slice A' n' c'] 38)
  obtain ⟨a0, a1, a2, a3, a4, a5, a6, a7, a8⟩ := frCells hb
  obtain ⟨b0, b1, b2, b3, b4, b5, b6, b7, b8⟩ := frCells hb'
  have hw0 := hB.size
  have HB := Lib.hid hB
  clear hr hr' hB hb hb'
  obtain ⟨D, hD⟩ : ∃ D, (f.data == g.data) = D := ⟨_, rfl⟩
  have hsame := fun W (h1 : Rd B8 W S A f.data) (h2 : Rd B8 W S' A' g.data) => same_calls A A' f.data g.data n n' c c' S S' W hn hn' h63 h1 h2
  rw [hD] at hsame
  go_enter Try.func13, Try.ntmps13
  cases h0 : (f.kind == g.kind)
  case' false =>
    have t0 : ((f.kind.toNat : Int) == (g.kind.toNat : Int)) = false := by rw [u8_beq]; exact h0
    have hs : Hid (sameF f g = false) := by show _ = _; simp only [sameF, hD, h0, Bool.true_and, Bool.false_and, Bool.and_false, Bool.and_true]
    clear h0
    go_wp2
    go_ret
    exact ⟨by rw [hs.out]; rfl, HB.out⟩
  case' true => skip
  cases h1 : (f.frm == g.frm)
  case' false =>
    have t0 : ((f.kind.toNat : Int) == (g.kind.toNat : Int)) = true := by rw [u8_beq]; exact h0
    have t1 : ((f.frm.toNat : Int) == (g.frm.toNat : Int)) = false := by rw [u8_beq]; exact h1
    have hs : Hid (sameF f g = false) := by show _ = _; simp only [sameF, hD, h0, h1, Bool.true_and, Bool.false_and, Bool.and_false, Bool.and_true]
    clear h0 h1
    go_wp2
    go_ret
    exact ⟨by rw [hs.out]; rfl, HB.out⟩
  case' true => skip
  cases h2 : (f.too == g.too)
  case' false =>
    have t0 : ((f.kind.toNat : Int) == (g.kind.toNat : Int)) = true := by rw [u8_beq]; exact h0
    have t1 : ((f.frm.toNat : Int) == (g.frm.toNat : Int)) = true := by rw [u8_beq]; exact h1
    have t2 : ((f.too.toNat : Int) == (g.too.toNat : Int)) = false := by rw [u8_beq]; exact h2
    have hs : Hid (sameF f g = false) := by show _ = _; simp only [sameF, hD, h0, h1, h2, Bool.true_and, Bool.false_and, Bool.and_false, Bool.and_true]
    clear h0 h1 h2
    go_wp2
    go_ret
    exact ⟨by rw [hs.out]; rfl, HB.out⟩
  case' true => skip
  cases h3 : (f.sess == g.sess)
  case' false =>
    have t0 : ((f.kind.toNat : Int) == (g.kind.toNat : Int)) = true := by rw [u8_beq]; exact h0
    have t1 : ((f.frm.toNat : Int) == (g.frm.toNat : Int)) = true := by rw [u8_beq]; exact h1
    have t2 : ((f.too.toNat : Int) == (g.too.toNat : Int)) = true := by rw [u8_beq]; exact h2
    have t3 : ((f.sess : Int) == (g.sess : Int)) = false := by rw [int_beq]; exact h3
    have hs : Hid (sameF f g = false) := by show _ = _; simp only [sameF, hD, h0, h1, h2, h3, Bool.true_and, Bool.false_and, Bool.and_false, Bool.and_true]
    clear h0 h1 h2 h3
    go_wp2
    go_ret
    exact ⟨by rw [hs.out]; rfl, HB.out⟩
  case' true => skip
  cases h4 : (f.seq == g.seq)
  case' false =>
    have t0 : ((f.kind.toNat : Int) == (g.kind.toNat : Int)) = true := by rw [u8_beq]; exact h0
    have t1 : ((f.frm.toNat : Int) == (g.frm.toNat : Int)) = true := by rw [u8_beq]; exact h1
    have t2 : ((f.too.toNat : Int) == (g.too.toNat : Int)) = true := by rw [u8_beq]; exact h2
    have t3 : ((f.sess : Int) == (g.sess : Int)) = true := by rw [int_beq]; exact h3
    have t4 : ((f.seq : Int) == (g.seq : Int)) = false := by rw [int_beq]; exact h4
    have hs : Hid (sameF f g = false) := by show _ = _; simp only [sameF, hD, h0, h1, h2, h3, h4, Bool.true_and, Bool.false_and, Bool.and_false, Bool.and_true]
    clear h0 h1 h2 h3 h4
    go_wp2
    go_ret
    exact ⟨by rw [hs.out]; rfl, HB.out⟩
  case' true => skip
  cases h5 : (f.part == g.part)
  case' false =>
    have t0 : ((f.kind.toNat : Int) == (g.kind.toNat : Int)) = true := by rw [u8_beq]; exact h0
    have t1 : ((f.frm.toNat : Int) == (g.frm.toNat : Int)) = true := by rw [u8_beq]; exact h1
    have t2 : ((f.too.toNat : Int) == (g.too.toNat : Int)) = true := by rw [u8_beq]; exact h2
    have t3 : ((f.sess : Int) == (g.sess : Int)) = true := by rw [int_beq]; exact h3
    have t4 : ((f.seq : Int) == (g.seq : Int)) = true := by rw [int_beq]; exact h4
    have t5 : ((f.part.toNat : Int) == (g.part.toNat : Int)) = false := by rw [u8_beq]; exact h5
    have hs : Hid (sameF f g = false) := by show _ = _; simp only [sameF, hD, h0, h1, h2, h3, h4, h5, Bool.true_and, Bool.false_and, Bool.and_false, Bool.and_true]
    clear h0 h1 h2 h3 h4 h5
    go_wp2
    go_ret
    exact ⟨by rw [hs.out]; rfl, HB.out⟩
  case' true => skip
  cases h6 : (f.off == g.off)
  case' false =>
    have t0 : ((f.kind.toNat : Int) == (g.kind.toNat : Int)) = true := by rw [u8_beq]; exact h0
    have t1 : ((f.frm.toNat : Int) == (g.frm.toNat : Int)) = true := by rw [u8_beq]; exact h1
    have t2 : ((f.too.toNat : Int) == (g.too.toNat : Int)) = true := by rw [u8_beq]; exact h2
    have t3 : ((f.sess : Int) == (g.sess : Int)) = true := by rw [int_beq]; exact h3
    have t4 : ((f.seq : Int) == (g.seq : Int)) = true := by rw [int_beq]; exact h4
    have t5 : ((f.part.toNat : Int) == (g.part.toNat : Int)) = true := by rw [u8_beq]; exact h5
    have t6 : ((f.off : Int) == (g.off : Int)) = false := by rw [int_beq]; exact h6
    have hs : Hid (sameF f g = false) := by show _ = _; simp only [sameF, hD, h0, h1, h2, h3, h4, h5, h6, Bool.true_and, Bool.false_and, Bool.and_false, Bool.and_true]
    clear h0 h1 h2 h3 h4 h5 h6
    go_wp2
    go_ret
    exact ⟨by rw [hs.out]; rfl, HB.out⟩
  case' true => skip
  cases h7 : (f.last == g.last)
  case' false =>
    have t0 : ((f.kind.toNat : Int) == (g.kind.toNat : Int)) = true := by rw [u8_beq]; exact h0
    have t1 : ((f.frm.toNat : Int) == (g.frm.toNat : Int)) = true := by rw [u8_beq]; exact h1
    have t2 : ((f.too.toNat : Int) == (g.too.toNat : Int)) = true := by rw [u8_beq]; exact h2
    have t3 : ((f.sess : Int) == (g.sess : Int)) = true := by rw [int_beq]; exact h3
    have t4 : ((f.seq : Int) == (g.seq : Int)) = true := by rw [int_beq]; exact h4
    have t5 : ((f.part.toNat : Int) == (g.part.toNat : Int)) = true := by rw [u8_beq]; exact h5
    have t6 : ((f.off : Int) == (g.off : Int)) = true := by rw [int_beq]; exact h6
    have t7 : (f.last == g.last) = false := h7
    have hs : Hid (sameF f g = false) := by show _ = _; simp only [sameF, hD, h0, h1, h2, h3, h4, h5, h6, h7, Bool.true_and, Bool.false_and, Bool.and_false, Bool.and_true]
    clear h0 h1 h2 h3 h4 h5 h6 h7
    go_wp2
    go_ret
    exact ⟨by rw [hs.out]; rfl, HB.out⟩
  case' true => skip
  have t0 : ((f.kind.toNat : Int) == (g.kind.toNat : Int)) = true := by rw [u8_beq]; exact h0
  have t1 : ((f.frm.toNat : Int) == (g.frm.toNat : Int)) = true := by rw [u8_beq]; exact h1
  have t2 : ((f.too.toNat : Int) == (g.too.toNat : Int)) = true := by rw [u8_beq]; exact h2
  have t3 : ((f.sess : Int) == (g.sess : Int)) = true := by rw [int_beq]; exact h3
  have t4 : ((f.seq : Int) == (g.seq : Int)) = true := by rw [int_beq]; exact h4
  have t5 : ((f.part.toNat : Int) == (g.part.toNat : Int)) = true := by rw [u8_beq]; exact h5
  have t6 : ((f.off : Int) == (g.off : Int)) = true := by rw [int_beq]; exact h6
  have t7 : (f.last == g.last) = true := h7
  have hs : Hid (sameF f g = D) := by show _ = _; simp only [sameF, hD, h0, h1, h2, h3, h4, h5, h6, h7, Bool.true_and, Bool.false_and, Bool.and_false, Bool.and_true]
  clear h0 h1 h2 h3 h4 h5 h6 h7
  go_wp2_with fail
  refine (hsame _ hr2 hr2').mono ?_
  rintro r W1 ⟨rfl, hb1⟩
  have HB1 := Lib.hid (HB.out.trans (hb1.mono hw0))
  clear hb1
  go_wp2
  go_ret
  exact ⟨by rw [hs.out]; rfl, HB1.out⟩
end Go.Proofs.Ytogdbccfkbbcaaa
