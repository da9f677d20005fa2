/- The walk of law34.BoundAtoms. -/
import Derived.Test.YtogdbccfkbbcaaaBoundH
import Derived.Deep.Cut
import Derived.Deep.WholeRow
namespace Go.Proofs.Ytogdbccfkbbcaaa
open Go.RowKit
set_option linter.unusedSimpArgs false
theorem bytes8 (w : World) : Calls Try.prog 25 #[.int .u8 8, .int .i64 0] w fun r w' => r = .returned (.int .i64 1) ∧ Below w.heap.size w w' := by
  have := bytes0 8 (by simp) w
  simpa using this
theorem alive34 (w : World) : Calls Try.prog 9 #[] w fun r w' => r = .returned (.bool true) ∧ Below w.heap.size w w' := by
  go_enter Try.func9, Try.ntmps9
  go_wp2_with fail
  refine (questions3 w).mono ?_
  rintro r W ⟨rfl, hb⟩
  go_wp2_with fail
  refine (bytes8 W).mono ?_
  rintro r W2 ⟨rfl, hb2⟩
  go_wp2
  go_ret
  exact ⟨rfl, hb.trans (hb2.mono hb.size)⟩
set_option maxHeartbeats 4000000 in
set_option maxRecDepth 100000 in
theorem bound_calls (a : At) (w : World) (hs : AtSmall a) : Calls Try.prog 3 #[.agg #[.int .u8 (a.k.sort.toNat : Int), .int .u16 (a.k.cart : Int), .int .u8 (a.k.item.b0.toNat : Int), .int .u8 (a.k.item.b1.toNat : Int), .int .u8 (a.k.item.b2.toNat : Int), .int .u8 (a.k.item.b3.toNat : Int), .int .u8 (a.k.item.b4.toNat : Int), .int .u8 (a.k.item.b5.toNat : Int), .int .u8 (a.k.item.b6.toNat : Int), .int .u8 (a.k.item.b7.toNat : Int), .int .u8 (a.k.rep.toNat : Int), .int .u32 (a.k.seq : Int), .int .u64 (a.v.n : Int), .int .u8 (a.v.text.b0.toNat : Int), .int .u8 (a.v.text.b1.toNat : Int), .int .u8 (a.v.text.b2.toNat : Int), .int .u8 (a.v.text.b3.toNat : Int), .int .u8 (a.v.text.b4.toNat : Int), .int .u8 (a.v.text.b5.toNat : Int), .int .u8 (a.v.text.b6.toNat : Int), .int .u8 (a.v.text.b7.toNat : Int)]] w fun r w' => r = .returned (.bool true) ∧ Below w.heap.size w w' := by
  have hbk := Blk.new w 32 #[.int .u8 (a.k.sort.toNat : Int), .int .u16 (a.k.cart : Int), .int .u8 (a.k.item.b0.toNat : Int), .int .u8 (a.k.item.b1.toNat : Int), .int .u8 (a.k.item.b2.toNat : Int), .int .u8 (a.k.item.b3.toNat : Int), .int .u8 (a.k.item.b4.toNat : Int), .int .u8 (a.k.item.b5.toNat : Int), .int .u8 (a.k.item.b6.toNat : Int), .int .u8 (a.k.item.b7.toNat : Int), .int .u8 (a.k.rep.toNat : Int), .int .u32 (a.k.seq : Int), .int .u64 (a.v.n : Int), .int .u8 (a.v.text.b0.toNat : Int), .int .u8 (a.v.text.b1.toNat : Int), .int .u8 (a.v.text.b2.toNat : Int), .int .u8 (a.v.text.b3.toNat : Int), .int .u8 (a.v.text.b4.toNat : Int), .int .u8 (a.v.text.b5.toNat : Int), .int .u8 (a.v.text.b6.toNat : Int), .int .u8 (a.v.text.b7.toNat : Int)]
  have hs0 : w.heap.size < (w.alloc (.cells #[.int .u8 (a.k.sort.toNat : Int), .int .u16 (a.k.cart : Int), .int .u8 (a.k.item.b0.toNat : Int), .int .u8 (a.k.item.b1.toNat : Int), .int .u8 (a.k.item.b2.toNat : Int), .int .u8 (a.k.item.b3.toNat : Int), .int .u8 (a.k.item.b4.toNat : Int), .int .u8 (a.k.item.b5.toNat : Int), .int .u8 (a.k.item.b6.toNat : Int), .int .u8 (a.k.item.b7.toNat : Int), .int .u8 (a.k.rep.toNat : Int), .int .u32 (a.k.seq : Int), .int .u64 (a.v.n : Int), .int .u8 (a.v.text.b0.toNat : Int), .int .u8 (a.v.text.b1.toNat : Int), .int .u8 (a.v.text.b2.toNat : Int), .int .u8 (a.v.text.b3.toNat : Int), .int .u8 (a.v.text.b4.toNat : Int), .int .u8 (a.v.text.b5.toNat : Int), .int .u8 (a.v.text.b6.toNat : Int), .int .u8 (a.v.text.b7.toNat : Int)] 32)).heap.size := by simp
  have hx0 : Hid (Below w.heap.size w (w.alloc (.cells #[.int .u8 (a.k.sort.toNat : Int), .int .u16 (a.k.cart : Int), .int .u8 (a.k.item.b0.toNat : Int), .int .u8 (a.k.item.b1.toNat : Int), .int .u8 (a.k.item.b2.toNat : Int), .int .u8 (a.k.item.b3.toNat : Int), .int .u8 (a.k.item.b4.toNat : Int), .int .u8 (a.k.item.b5.toNat : Int), .int .u8 (a.k.item.b6.toNat : Int), .int .u8 (a.k.item.b7.toNat : Int), .int .u8 (a.k.rep.toNat : Int), .int .u32 (a.k.seq : Int), .int .u64 (a.v.n : Int), .int .u8 (a.v.text.b0.toNat : Int), .int .u8 (a.v.text.b1.toNat : Int), .int .u8 (a.v.text.b2.toNat : Int), .int .u8 (a.v.text.b3.toNat : Int), .int .u8 (a.v.text.b4.toNat : Int), .int .u8 (a.v.text.b5.toNat : Int), .int .u8 (a.v.text.b6.toNat : Int), .int .u8 (a.v.text.b7.toNat : Int)] 32))) := (Below.refl _ _).alloc (Nat.le_refl _) _
  go_enter Try.func3, Try.ntmps3
  go_upto_region 1 with (fail)
  generalize w.alloc (.cells #[.int .u8 (a.k.sort.toNat : Int), .int .u16 (a.k.cart : Int), .int .u8 (a.k.item.b0.toNat : Int), .int .u8 (a.k.item.b1.toNat : Int), .int .u8 (a.k.item.b2.toNat : Int), .int .u8 (a.k.item.b3.toNat : Int), .int .u8 (a.k.item.b4.toNat : Int), .int .u8 (a.k.item.b5.toNat : Int), .int .u8 (a.k.item.b6.toNat : Int), .int .u8 (a.k.item.b7.toNat : Int), .int .u8 (a.k.rep.toNat : Int), .int .u32 (a.k.seq : Int), .int .u64 (a.v.n : Int), .int .u8 (a.v.text.b0.toNat : Int), .int .u8 (a.v.text.b1.toNat : Int), .int .u8 (a.v.text.b2.toNat : Int), .int .u8 (a.v.text.b3.toNat : Int), .int .u8 (a.v.text.b4.toNat : Int), .int .u8 (a.v.text.b5.toNat : Int), .int .u8 (a.v.text.b6.toNat : Int), .int .u8 (a.v.text.b7.toNat : Int)] 32) = W0 at hbk hs0 hx0 ⊢
  go_wp2_with (refine wpList_load_row rfl 32 (.tmp 1) rfl w.heap.size rfl 32 #[.int .u8 (a.k.sort.toNat : Int), .int .u16 (a.k.cart : Int), .int .u8 (a.k.item.b0.toNat : Int), .int .u8 (a.k.item.b1.toNat : Int), .int .u8 (a.k.item.b2.toNat : Int), .int .u8 (a.k.item.b3.toNat : Int), .int .u8 (a.k.item.b4.toNat : Int), .int .u8 (a.k.item.b5.toNat : Int), .int .u8 (a.k.item.b6.toNat : Int), .int .u8 (a.k.item.b7.toNat : Int), .int .u8 (a.k.rep.toNat : Int), .int .u32 (a.k.seq : Int), .int .u64 (a.v.n : Int), .int .u8 (a.v.text.b0.toNat : Int), .int .u8 (a.v.text.b1.toNat : Int), .int .u8 (a.v.text.b2.toNat : Int), .int .u8 (a.v.text.b3.toNat : Int), .int .u8 (a.v.text.b4.toNat : Int), .int .u8 (a.v.text.b5.toNat : Int), .int .u8 (a.v.text.b6.toNat : Int), .int .u8 (a.v.text.b7.toNat : Int)] (0, 0) _ hbk.out Try.underlying32 rfl info_at ?_)
  refine (asize_calls a W0 hs).mono ?_
  rintro r W1 ⟨⟨n, hn, rfl⟩, hb1⟩
  have HB1 := Lib.hid (hx0.out.trans (hb1.mono (by omega)))
  have hd : decide ((n : Int) ≤ 20) = true := decide_eq_true (by omega)
  clear hb1 hbk hx0
  go_wp2_with fail
  refine (alive34 W1).mono ?_
  rintro r W2 ⟨rfl, hb2⟩
  have HB2 := Lib.hid (HB1.out.trans (hb2.mono HB1.out.size))
  clear hb2 HB1
  go_wp2
  go_ret
  exact ⟨rfl, HB2.out⟩
end Go.Proofs.Ytogdbccfkbbcaaa
