/- The walks: are bytes, are frames; the room of a frame. -/
import Derived.Test.YtogdbccfkbbcaaaFrameE
import Derived.Test.YtogdbccfkbbcaaaShelf
import Derived.Test.YtogdbccfkbbcaaaVarW
namespace Go.Proofs.Ytogdbccfkbbcaaa
open Go.RowKit
set_option linter.unusedSimpArgs false
theorem room_calls (b : Int) (w : World) (h1 : -9223372036854775808 ≤ b) (h2 : b ≤ 9223372036854775807) :
    Calls Try.prog 21 #[.int .i64 b] w fun r w' => r = .returned (.int .i64 (if b < 32 then 0 else min (b - 26) 65536)) ∧ w = w' := by
  by_cases h : b < 32
  · have hd : decide (b < 32) = true := by simp; omega
    rw [if_pos h]
    go_enter Try.func21, Try.ntmps21
    go_wp2
    go_ret
    exact ⟨rfl, rfl⟩
  · have hd : decide (b < 32) = false := by simp; omega
    rw [if_neg h]
    have hw : IntKind.i64.wrap (b - 26) = b - 26 := IntWalk.i64_in _ ⟨by omega, by omega⟩
    go_enter Try.func21, Try.ntmps21
    go_wp2
    go_ret
    exact ⟨rfl, rfl⟩
set_option maxRecDepth 100000 in
theorem same_calls (A A' : Option Addr) (l l' : List UInt8) (n n' c c' : Nat) (S S' : Nat → Prop) (w : World) (hn : l.length = n) (hn' : l'.length = n') (h63 : n ≤ 1000000) (hr : Rd B8 w S A l) (hr' : Rd B8 w S' A' l') :
    Calls Try.prog 15 #[.slice A n c, .slice A' n' c'] w fun r w' => r = .returned (.bool (l == l')) ∧ Below w.heap.size w w' := by
  by_cases hne : n = n'
  · subst hne
    subst hn
    go_enter Try.func15, Try.ntmps15
    go_wp2
    go_loopw [5] (fun i wr => ∃ k : Nat, k ≤ l.length ∧ i = .int .i64 k ∧ l.take k = l'.take k ∧ Below w.heap.size w wr) (fun i _ => l.length - (intOf i).toNat)
    case atStart => exact ⟨0, by omega, rfl, rfl, Below.refl _ _⟩
    case round =>
      obtain ⟨k, hk, rfl, he, hB⟩ := hrel
      by_cases hlt : k < l.length
      · have hd : decide ((k : Int) < l.length) = true := by simp; omega
        have hd' : decide (k < l.length) = true := by simp; omega
        obtain ⟨b, o, x, rfl, _, hx, hc⟩ := (hr.below hB).at_ hlt
        obtain ⟨b', o', x', rfl, _, hx', hc'⟩ := (hr'.below hB).at_ (i := k) (by omega)
        unfold B8 at hc hc'
        have Hx := Lib.hid hx
        have Hx' := Lib.hid hx'
        have He := Lib.hid he
        clear hx hx' he
        by_cases hxx : x = x'
        · subst hxx
          have ht : ((x.toNat : Int) != (x.toNat : Int)) = false := by simp
          go_wp2_with fail
          go_quiet (fail)
          go_wp2
          go_roundw
          case rel => exact ⟨k + 1, by omega, by go_num, by rw [take_snoc Hx.out, take_snoc Hx'.out, He.out], below_drewN hB _⟩
          case measure => simp [intOf]; omega
        · have ht : ((x.toNat : Int) != (x'.toNat : Int)) = true := by
            simp only [bne_iff_ne, ne_eq]; intro h; exact hxx (UInt8.toNat_inj.1 (by omega))
          have hl : (l == l') = false := by
            simp only [beq_eq_false_iff_ne, ne_eq]
            rintro rfl
            have := Hx.out.symm.trans Hx'.out
            injection this with this
            exact hxx this
          go_wp2_with fail
          go_quiet (fail)
          go_wp2
          go_ret
          exact ⟨by rw [hl]; rfl, below_drewN hB _⟩
      · have hd : decide ((k : Int) < l.length) = false := by simp; omega
        have hd' : decide (k < l.length) = false := by simp; omega
        have hl : (l == l') = true := by
          rw [beq_iff_eq]
          rw [List.take_of_length_le (by omega), List.take_of_length_le (by omega)] at he
          exact he
        clear he
        go_wp2
        go_ret
        exact ⟨by rw [hl]; rfl, hB⟩
  · have hl : (l == l') = false := by
      simp only [beq_eq_false_iff_ne, ne_eq]; rintro rfl; omega
    have hd : ((n : Int) != (n' : Int)) = true := by simp; omega
    rw [hl]
    clear hne hn hn' hl
    go_enter Try.func15, Try.ntmps15
    go_wp2
    go_ret
    exact ⟨rfl, Below.refl _ _⟩
theorem u8_beq (x y : UInt8) : ((x.toNat : Int) == (y.toNat : Int)) = (x == y) := by
  rw [Bool.eq_iff_iff, beq_iff_eq, beq_iff_eq, Int.natCast_inj, UInt8.toNat_inj]
theorem int_beq (a b : Nat) : ((a : Int) == (b : Int)) = (a == b) := by
  rw [Bool.eq_iff_iff, beq_iff_eq, beq_iff_eq, Int.natCast_inj]
def nums (l : List UInt8) : List Int := l.map fun c => (c.toNat : Int)
theorem nums_length (l : List UInt8) : (nums l).length = l.length := by simp [nums]
theorem bytesOf_nums (l : List UInt8) : Lib.bytesOf (nums l) = l := by
  unfold Lib.bytesOf nums
  rw [List.map_map]
  conv => rhs; rw [← List.map_id l]
  apply List.map_congr_left
  intro c _
  simp
theorem Rd.bytesIn {w : World} {S : Nat → Prop} {A : Option Addr} {l : List UInt8} {n : Nat} (h : Rd B8 w S A l) (hn : l.length = n) : Lib.BytesIn w A n (nums l) := fun h0 => by
  obtain ⟨b, o, e, _, hc⟩ := h (by omega)
  refine ⟨b, o, e, fun i hi => ?_⟩
  rw [hc i (by omega)]
  unfold B8 nums
  simp [List.getD, show i < l.length by omega]
/-- Are two frames the same? -/
def sameF (f g : Fr) : Bool := (f.data == g.data) && (f.kind == g.kind && (f.frm == g.frm && (f.too == g.too && (f.sess == g.sess && (f.seq == g.seq && (f.part == g.part && (f.off == g.off && f.last == g.last)))))))
theorem sameF_refl (f : Fr) : sameF f f = true := by simp [sameF]
set_option maxRecDepth 100000 in
theorem fsame_calls (f g : Fr) (A A' : Option Addr) (n n' c c' : Nat) (S S' : Nat → Prop) (w : World) (hn : f.data.length = n) (hn' : g.data.length = n') (hr : Rd B8 w S A f.data) (hr' : Rd B8 w S' A' g.data) :
    Calls Try.prog 16 #[.agg #[.int .u8 (f.kind.toNat : Int), .int .u8 (f.frm.toNat : Int), .int .u8 (f.too.toNat : Int), .int .u32 (f.sess : Int), .int .u32 (f.seq : Int), .int .u8 (f.part.toNat : Int), .int .u32 (f.off : Int), .bool f.last, .slice A n c], .agg #[.int .u8 (g.kind.toNat : Int), .int .u8 (g.frm.toNat : Int), .int .u8 (g.too.toNat : Int), .int .u32 (g.sess : Int), .int .u32 (g.seq : Int), .int .u8 (g.part.toNat : Int), .int .u32 (g.off : Int), .bool g.last, .slice A' n' c']] w fun r w' => r = .returned (.bool (sameF f g)) ∧ Below w.heap.size w w' := by
  have hb := Blk.alloc (Blk.new w 38 #[.int .u8 (f.kind.toNat : Int), .int .u8 (f.frm.toNat : Int), .int .u8 (f.too.toNat : Int), .int .u32 (f.sess : Int), .int .u32 (f.seq : Int), .int .u8 (f.part.toNat : Int), .int .u32 (f.off : Int), .bool f.last, .slice A n c]) (.cells #[.int .u8 (g.kind.toNat : Int), .int .u8 (g.frm.toNat : Int), .int .u8 (g.too.toNat : Int), .int .u32 (g.sess : Int), .int .u32 (g.seq : Int), .int .u8 (g.part.toNat : Int), .int .u32 (g.off : Int), .bool g.last, .slice A' n' c'] 38)
  have hb' := Blk.new (w.alloc (.cells #[.int .u8 (f.kind.toNat : Int), .int .u8 (f.frm.toNat : Int), .int .u8 (f.too.toNat : Int), .int .u32 (f.sess : Int), .int .u32 (f.seq : Int), .int .u8 (f.part.toNat : Int), .int .u32 (f.off : Int), .bool f.last, .slice A n c] 38)) 38 #[.int .u8 (g.kind.toNat : Int), .int .u8 (g.frm.toNat : Int), .int .u8 (g.too.toNat : Int), .int .u32 (g.sess : Int), .int .u32 (g.seq : Int), .int .u8 (g.part.toNat : Int), .int .u32 (g.off : Int), .bool g.last, .slice A' n' c']
  rw [World.size_alloc] at hb'
  have hB : Below w.heap.size w ((w.alloc (.cells #[.int .u8 (f.kind.toNat : Int), .int .u8 (f.frm.toNat : Int), .int .u8 (f.too.toNat : Int), .int .u32 (f.sess : Int), .int .u32 (f.seq : Int), .int .u8 (f.part.toNat : Int), .int .u32 (f.off : Int), .bool f.last, .slice A n c] 38)).alloc (.cells #[.int .u8 (g.kind.toNat : Int), .int .u8 (g.frm.toNat : Int), .int .u8 (g.too.toNat : Int), .int .u32 (g.sess : Int), .int .u32 (g.seq : Int), .int .u8 (g.part.toNat : Int), .int .u32 (g.off : Int), .bool g.last, .slice A' n' c'] 38)) := ((Below.refl _ _).alloc (Nat.le_refl _) _).alloc (by simp) _
  have hr2 := (hr.alloc (.cells #[.int .u8 (f.kind.toNat : Int), .int .u8 (f.frm.toNat : Int), .int .u8 (f.too.toNat : Int), .int .u32 (f.sess : Int), .int .u32 (f.seq : Int), .int .u8 (f.part.toNat : Int), .int .u32 (f.off : Int), .bool f.last, .slice A n c] 38)).alloc (.cells #[.int .u8 (g.kind.toNat : Int), .int .u8 (g.frm.toNat : Int), .int .u8 (g.too.toNat : Int), .int .u32 (g.sess : Int), .int .u32 (g.seq : Int), .int .u8 (g.part.toNat : Int), .int .u32 (g.off : Int), .bool g.last, .slice A' n' c'] 38)
  have hr2' := (hr'.alloc (.cells #[.int .u8 (f.kind.toNat : Int), .int .u8 (f.frm.toNat : Int), .int .u8 (f.too.toNat : Int), .int .u32 (f.sess : Int), .int .u32 (f.seq : Int), .int .u8 (f.part.toNat : Int), .int .u32 (f.off : Int), .bool f.last, .slice A n c] 38)).alloc (.cells #[.int .u8 (g.kind.toNat : Int), .int .u8 (g.frm.toNat : Int), .int .u8 (g.too.toNat : Int), .int .u32 (g.sess : Int), .int .u32 (g.seq : Int), .int .u8 (g.part.toNat : Int), .int .u32 (g.off : Int), .bool g.last, .slice A' n' c'] 38)
  go_enter Try.func16, Try.ntmps16
  have k8 := hb.cell 8
  have k8' := hb'.cell 8
  simp at k8 k8'
  go_wp2_with fail
  generalize (w.alloc (.cells #[.int .u8 (f.kind.toNat : Int), .int .u8 (f.frm.toNat : Int), .int .u8 (f.too.toNat : Int), .int .u32 (f.sess : Int), .int .u32 (f.seq : Int), .int .u8 (f.part.toNat : Int), .int .u32 (f.off : Int), .bool f.last, .slice A n c] 38)).alloc (.cells #[.int .u8 (g.kind.toNat : Int), .int .u8 (g.frm.toNat : Int), .int .u8 (g.too.toNat : Int), .int .u32 (g.sess : Int), .int .u32 (g.seq : Int), .int .u8 (g.part.toNat : Int), .int .u32 (g.off : Int), .bool g.last, .slice A' n' c'] 38) = W at hb hb' hB hr2 hr2' k8 k8' ⊢
  have HE := Lib.hid (Try.bytes_Equal_all A A' n c n' c' (nums f.data) (nums g.data) W (by rw [nums_length]; exact hn) (by rw [nums_length]; exact hn') (hr2.bytesIn hn) (hr2'.bytesIn hn'))
  have HBy : Hid ((Lib.bytesOf (nums f.data) == Lib.bytesOf (nums g.data)) = (f.data == g.data)) := by show _ = _; rw [bytesOf_nums, bytesOf_nums]
  refine HE.out.mono ?_
  rintro r W1 ⟨rfl, rfl⟩
  rw [HBy.out]
  clear HE HBy
  have hw0 := hB.size
  have HB := Lib.hid hB
  clear hB hr hr' hr2 hr2' hn hn'
  cases hd : (f.data == g.data)
  case' false =>
    have hs : Hid (sameF f g = false) := by show _ = _; simp only [sameF, hd, Bool.false_and]
    go_wp2
    go_ret
    exact ⟨by rw [hs.out]; rfl, HB.out⟩
  case' true => skip
  obtain ⟨a0, a1, a2, a3, a4, a5, a6, a7, a8⟩ := frCells hb
  obtain ⟨b0, b1, b2, b3, b4, b5, b6, b7, b8⟩ := frCells hb'
  cases h0 : (f.kind == g.kind)
  case' false =>
    have t0 : ((f.kind.toNat : Int) == (g.kind.toNat : Int)) = false := by rw [u8_beq]; exact h0
    have hs : Hid (sameF f g = false) := by show _ = _; simp only [sameF, hd, h0, Bool.true_and, Bool.false_and, Bool.and_false, Bool.and_true]
    clear h0
    go_wp2
    go_ret
    exact ⟨by rw [hs.out]; rfl, HB.out⟩
  case' true => skip
  cases h1 : (f.frm == g.frm)
  case' false =>
    have t0 : ((f.kind.toNat : Int) == (g.kind.toNat : Int)) = true := by rw [u8_beq]; exact h0
    have t1 : ((f.frm.toNat : Int) == (g.frm.toNat : Int)) = false := by rw [u8_beq]; exact h1
    have hs : Hid (sameF f g = false) := by show _ = _; simp only [sameF, hd, h0, h1, Bool.true_and, Bool.false_and, Bool.and_false, Bool.and_true]
    clear h0 h1
    go_wp2
    go_ret
    exact ⟨by rw [hs.out]; rfl, HB.out⟩
  case' true => skip
  cases h2 : (f.too == g.too)
  case' false =>
    have t0 : ((f.kind.toNat : Int) == (g.kind.toNat : Int)) = true := by rw [u8_beq]; exact h0
    have t1 : ((f.frm.toNat : Int) == (g.frm.toNat : Int)) = true := by rw [u8_beq]; exact h1
    have t2 : ((f.too.toNat : Int) == (g.too.toNat : Int)) = false := by rw [u8_beq]; exact h2
    have hs : Hid (sameF f g = false) := by show _ = _; simp only [sameF, hd, h0, h1, h2, Bool.true_and, Bool.false_and, Bool.and_false, Bool.and_true]
    clear h0 h1 h2
    go_wp2
    go_ret
    exact ⟨by rw [hs.out]; rfl, HB.out⟩
  case' true => skip
  cases h3 : (f.sess == g.sess)
  case' false =>
    have t0 : ((f.kind.toNat : Int) == (g.kind.toNat : Int)) = true := by rw [u8_beq]; exact h0
    have t1 : ((f.frm.toNat : Int) == (g.frm.toNat : Int)) = true := by rw [u8_beq]; exact h1
    have t2 : ((f.too.toNat : Int) == (g.too.toNat : Int)) = true := by rw [u8_beq]; exact h2
    have t3 : ((f.sess : Int) == (g.sess : Int)) = false := by rw [int_beq]; exact h3
    have hs : Hid (sameF f g = false) := by show _ = _; simp only [sameF, hd, h0, h1, h2, h3, Bool.true_and, Bool.false_and, Bool.and_false, Bool.and_true]
    clear h0 h1 h2 h3
    go_wp2
    go_ret
    exact ⟨by rw [hs.out]; rfl, HB.out⟩
  case' true => skip
  cases h4 : (f.seq == g.seq)
  case' false =>
    have t0 : ((f.kind.toNat : Int) == (g.kind.toNat : Int)) = true := by rw [u8_beq]; exact h0
    have t1 : ((f.frm.toNat : Int) == (g.frm.toNat : Int)) = true := by rw [u8_beq]; exact h1
    have t2 : ((f.too.toNat : Int) == (g.too.toNat : Int)) = true := by rw [u8_beq]; exact h2
    have t3 : ((f.sess : Int) == (g.sess : Int)) = true := by rw [int_beq]; exact h3
    have t4 : ((f.seq : Int) == (g.seq : Int)) = false := by rw [int_beq]; exact h4
    have hs : Hid (sameF f g = false) := by show _ = _; simp only [sameF, hd, h0, h1, h2, h3, h4, Bool.true_and, Bool.false_and, Bool.and_false, Bool.and_true]
    clear h0 h1 h2 h3 h4
    go_wp2
    go_ret
    exact ⟨by rw [hs.out]; rfl, HB.out⟩
  case' true => skip
  cases h5 : (f.part == g.part)
  case' false =>
    have t0 : ((f.kind.toNat : Int) == (g.kind.toNat : Int)) = true := by rw [u8_beq]; exact h0
    have t1 : ((f.frm.toNat : Int) == (g.frm.toNat : Int)) = true := by rw [u8_beq]; exact h1
    have t2 : ((f.too.toNat : Int) == (g.too.toNat : Int)) = true := by rw [u8_beq]; exact h2
    have t3 : ((f.sess : Int) == (g.sess : Int)) = true := by rw [int_beq]; exact h3
    have t4 : ((f.seq : Int) == (g.seq : Int)) = true := by rw [int_beq]; exact h4
    have t5 : ((f.part.toNat : Int) == (g.part.toNat : Int)) = false := by rw [u8_beq]; exact h5
    have hs : Hid (sameF f g = false) := by show _ = _; simp only [sameF, hd, h0, h1, h2, h3, h4, h5, Bool.true_and, Bool.false_and, Bool.and_false, Bool.and_true]
    clear h0 h1 h2 h3 h4 h5
    go_wp2
    go_ret
    exact ⟨by rw [hs.out]; rfl, HB.out⟩
  case' true => skip
  cases h6 : (f.off == g.off)
  case' false =>
    have t0 : ((f.kind.toNat : Int) == (g.kind.toNat : Int)) = true := by rw [u8_beq]; exact h0
    have t1 : ((f.frm.toNat : Int) == (g.frm.toNat : Int)) = true := by rw [u8_beq]; exact h1
    have t2 : ((f.too.toNat : Int) == (g.too.toNat : Int)) = true := by rw [u8_beq]; exact h2
    have t3 : ((f.sess : Int) == (g.sess : Int)) = true := by rw [int_beq]; exact h3
    have t4 : ((f.seq : Int) == (g.seq : Int)) = true := by rw [int_beq]; exact h4
    have t5 : ((f.part.toNat : Int) == (g.part.toNat : Int)) = true := by rw [u8_beq]; exact h5
    have t6 : ((f.off : Int) == (g.off : Int)) = false := by rw [int_beq]; exact h6
    have hs : Hid (sameF f g = false) := by show _ = _; simp only [sameF, hd, h0, h1, h2, h3, h4, h5, h6, Bool.true_and, Bool.false_and, Bool.and_false, Bool.and_true]
    clear h0 h1 h2 h3 h4 h5 h6
    go_wp2
    go_ret
    exact ⟨by rw [hs.out]; rfl, HB.out⟩
  case' true => skip
  cases h7 : (f.last == g.last)
  case' false =>
    have t0 : ((f.kind.toNat : Int) == (g.kind.toNat : Int)) = true := by rw [u8_beq]; exact h0
    have t1 : ((f.frm.toNat : Int) == (g.frm.toNat : Int)) = true := by rw [u8_beq]; exact h1
    have t2 : ((f.too.toNat : Int) == (g.too.toNat : Int)) = true := by rw [u8_beq]; exact h2
    have t3 : ((f.sess : Int) == (g.sess : Int)) = true := by rw [int_beq]; exact h3
    have t4 : ((f.seq : Int) == (g.seq : Int)) = true := by rw [int_beq]; exact h4
    have t5 : ((f.part.toNat : Int) == (g.part.toNat : Int)) = true := by rw [u8_beq]; exact h5
    have t6 : ((f.off : Int) == (g.off : Int)) = true := by rw [int_beq]; exact h6
    have t7 : (f.last == g.last) = false := h7
    have hs : Hid (sameF f g = false) := by show _ = _; simp only [sameF, hd, h0, h1, h2, h3, h4, h5, h6, h7, Bool.true_and, Bool.false_and, Bool.and_false, Bool.and_true]
    clear h0 h1 h2 h3 h4 h5 h6 h7
    go_wp2
    go_ret
    exact ⟨by rw [hs.out]; rfl, HB.out⟩
  case' true => skip
  have t0 : ((f.kind.toNat : Int) == (g.kind.toNat : Int)) = true := by rw [u8_beq]; exact h0
  have t1 : ((f.frm.toNat : Int) == (g.frm.toNat : Int)) = true := by rw [u8_beq]; exact h1
  have t2 : ((f.too.toNat : Int) == (g.too.toNat : Int)) = true := by rw [u8_beq]; exact h2
  have t3 : ((f.sess : Int) == (g.sess : Int)) = true := by rw [int_beq]; exact h3
  have t4 : ((f.seq : Int) == (g.seq : Int)) = true := by rw [int_beq]; exact h4
  have t5 : ((f.part.toNat : Int) == (g.part.toNat : Int)) = true := by rw [u8_beq]; exact h5
  have t6 : ((f.off : Int) == (g.off : Int)) = true := by rw [int_beq]; exact h6
  have t7 : (f.last == g.last) = true := h7
  have hs : Hid (sameF f g = true) := by show _ = _; simp only [sameF, hd, h0, h1, h2, h3, h4, h5, h6, h7, Bool.true_and, Bool.false_and, Bool.and_false, Bool.and_true]
  clear h0 h1 h2 h3 h4 h5 h6 h7
  go_wp2
  go_ret
  exact ⟨by rw [hs.out]; rfl, HB.out⟩
end Go.Proofs.Ytogdbccfkbbcaaa
