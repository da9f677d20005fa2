/- The walk: FrameReads (layer 27). -/
import Derived.Test.YtogdbccfkbbcaaaRefG
import Derived.Test.YtogdbccfkbbcaaaAlive27
namespace Go.Proofs.Ytogdbccfkbbcaaa
open Go.RowKit
set_option linter.unusedSimpArgs false
set_option maxHeartbeats 4000000 in
set_option maxRecDepth 100000 in
theorem reads_walk (B : Option Addr) (nb cb : Nat) (l : List UInt8) (S : Nat → Prop) (w : World) (hl : l.length = nb) (hcb : nb ≤ cb) (hrb : Rd B8 w S B l) (h500 : nb ≤ 500) :
    Calls Try.prog 4 #[.slice B nb cb] w fun r w' => r = .returned (.bool true) ∧ Below w.heap.size w w' := by
  have hd5 : decide ((nb : Int) > 500) = false := by simp; omega
  have HL := Lib.hid hl
  have hal := fun W => alive27_calls W
  have hlen : (decF l).1.data.length ≤ 1000000 := Nat.le_trans (decF_data l) (by omega)
  obtain ⟨g, e, hD⟩ : ∃ g e, decF l = (g, e) := ⟨_, _, rfl⟩
  rw [hD] at hlen
  dsimp only at hlen
  have HD := Lib.hid hD
  clear hl hD
  go_enter Try.func4, Try.ntmps4
  go_wp2_with fail
  refine (decode_calls B l nb cb _ w HL.out hcb (by omega) hrb).mono ?_
  rw [HD.out]
  dsimp only
  rintro r W1 ⟨A1, c1, rfl, hc1, hr1, hb1⟩
  have hz1 := Blk.new W1 38 #[.int .u8 (g.kind.toNat : Int), .int .u8 (g.frm.toNat : Int), .int .u8 (g.too.toNat : Int), .int .u32 (g.sess : Int), .int .u32 (g.seq : Int), .int .u8 (g.part.toNat : Int), .int .u32 (g.off : Int), .bool g.last, .slice A1 g.data.length c1]
  have hs1 := hb1.size
  have hrb1 := (hrb.below hb1).alloc (.cells #[.int .u8 (g.kind.toNat : Int), .int .u8 (g.frm.toNat : Int), .int .u8 (g.too.toNat : Int), .int .u32 (g.sess : Int), .int .u32 (g.seq : Int), .int .u8 (g.part.toNat : Int), .int .u32 (g.off : Int), .bool g.last, .slice A1 g.data.length c1] 38)
  have hr1' := hr1.alloc (.cells #[.int .u8 (g.kind.toNat : Int), .int .u8 (g.frm.toNat : Int), .int .u8 (g.too.toNat : Int), .int .u32 (g.sess : Int), .int .u32 (g.seq : Int), .int .u8 (g.part.toNat : Int), .int .u32 (g.off : Int), .bool g.last, .slice A1 g.data.length c1] 38)
  have HB1 := Lib.hid (hb1.alloc hs1 (.cells #[.int .u8 (g.kind.toNat : Int), .int .u8 (g.frm.toNat : Int), .int .u8 (g.too.toNat : Int), .int .u32 (g.sess : Int), .int .u32 (g.seq : Int), .int .u8 (g.part.toNat : Int), .int .u32 (g.off : Int), .bool g.last, .slice A1 g.data.length c1] 38))
  have hsz : w.heap.size ≤ (W1.alloc (.cells #[.int .u8 (g.kind.toNat : Int), .int .u8 (g.frm.toNat : Int), .int .u8 (g.too.toNat : Int), .int .u32 (g.sess : Int), .int .u32 (g.seq : Int), .int .u8 (g.part.toNat : Int), .int .u32 (g.off : Int), .bool g.last, .slice A1 g.data.length c1] 38)).heap.size := by simp; omega
  clear hb1 hr1 hrb
  go_wp2_with fail
  generalize W1.alloc (.cells #[.int .u8 (g.kind.toNat : Int), .int .u8 (g.frm.toNat : Int), .int .u8 (g.too.toNat : Int), .int .u32 (g.sess : Int), .int .u32 (g.seq : Int), .int .u8 (g.part.toNat : Int), .int .u32 (g.off : Int), .bool g.last, .slice A1 g.data.length c1] 38) = W2 at hz1 hrb1 hr1' HB1 hsz ⊢
  refine (rdecode_calls B l nb cb _ W2 HL.out hcb (by omega) hrb1).mono ?_
  rw [HD.out]
  dsimp only
  rintro r W3 ⟨A3, c3, rfl, hc3, hr3, hb3⟩
  have hz3 := (hz1.below hb3 hz1.lt).alloc (.cells #[.int .u8 (g.kind.toNat : Int), .int .u8 (g.frm.toNat : Int), .int .u8 (g.too.toNat : Int), .int .u32 (g.sess : Int), .int .u32 (g.seq : Int), .int .u8 (g.part.toNat : Int), .int .u32 (g.off : Int), .bool g.last, .slice A3 g.data.length c3] 38)
  have hy3 := Blk.new W3 38 #[.int .u8 (g.kind.toNat : Int), .int .u8 (g.frm.toNat : Int), .int .u8 (g.too.toNat : Int), .int .u32 (g.sess : Int), .int .u32 (g.seq : Int), .int .u8 (g.part.toNat : Int), .int .u32 (g.off : Int), .bool g.last, .slice A3 g.data.length c3]
  have hra := (hr1'.below hb3).alloc (.cells #[.int .u8 (g.kind.toNat : Int), .int .u8 (g.frm.toNat : Int), .int .u8 (g.too.toNat : Int), .int .u32 (g.sess : Int), .int .u32 (g.seq : Int), .int .u8 (g.part.toNat : Int), .int .u32 (g.off : Int), .bool g.last, .slice A3 g.data.length c3] 38)
  have hrc := hr3.alloc (.cells #[.int .u8 (g.kind.toNat : Int), .int .u8 (g.frm.toNat : Int), .int .u8 (g.too.toNat : Int), .int .u32 (g.sess : Int), .int .u32 (g.seq : Int), .int .u8 (g.part.toNat : Int), .int .u32 (g.off : Int), .bool g.last, .slice A3 g.data.length c3] 38)
  have HB3 := Lib.hid ((HB1.out.trans (hb3.mono hsz)).alloc (Nat.le_trans hsz hb3.size) (.cells #[.int .u8 (g.kind.toNat : Int), .int .u8 (g.frm.toNat : Int), .int .u8 (g.too.toNat : Int), .int .u32 (g.sess : Int), .int .u32 (g.seq : Int), .int .u8 (g.part.toNat : Int), .int .u32 (g.off : Int), .bool g.last, .slice A3 g.data.length c3] 38))
  clear hb3 hr3 hz1 hrb1 hr1' HB1
  obtain ⟨x0, x1, x2, x3, x4, x5, x6, x7, x8⟩ := frCells hz3
  obtain ⟨y0, y1, y2, y3, y4, y5, y6, y7, y8⟩ := frCells hy3
  go_wp2_with fail
  clear x0 x1 x2 x3 x4 x5 x6 x7 x8 y0 y1 y2 y3 y4 y5 y6 y7 y8 hz3 hy3
  generalize W3.alloc (.cells #[.int .u8 (g.kind.toNat : Int), .int .u8 (g.frm.toNat : Int), .int .u8 (g.too.toNat : Int), .int .u32 (g.sess : Int), .int .u32 (g.seq : Int), .int .u8 (g.part.toNat : Int), .int .u32 (g.off : Int), .bool g.last, .slice A3 g.data.length c3] 38) = W4 at hra hrc HB3 ⊢
  have hsm := rfsame_calls g g A1 A3 g.data.length g.data.length c1 c3 _ _ W4 rfl rfl hlen hra hrc
  rw [sameF_refl] at hsm
  refine hsm.mono ?_
  rintro r W5 ⟨rfl, hb5⟩
  have hs4 := HB3.out.size
  have HB5 := Lib.hid (HB3.out.trans (hb5.mono hs4))
  have hs5 := HB5.out.size
  clear hb5 hsm hra hrc
  go_wp2_with (go_at_call 10; refine (hal _).mono ?_; rintro r W9 ⟨rfl, hb9⟩; have HB9 := Lib.hid hb9; clear hb9)
  go_ret
  exact ⟨rfl, HB5.out.trans (HB9.out.mono hs5)⟩
theorem reads_big (B : Option Addr) (nb cb : Nat) (w : World) (h : 500 < nb) :
    Calls Try.prog 4 #[.slice B nb cb] w fun r w' => r = .returned (.bool true) ∧ Below w.heap.size w w' := by
  have hd5 : decide ((nb : Int) > 500) = true := by simp; omega
  have hal := fun W => alive27_calls W
  clear h
  go_enter Try.func4, Try.ntmps4
  go_wp2_with (go_at_call 10; refine (hal _).mono ?_; rintro r W9 ⟨rfl, hb9⟩; have HB9 := Lib.hid hb9; clear hb9)
  go_ret
  exact ⟨rfl, HB9.out⟩
end Go.Proofs.Ytogdbccfkbbcaaa
