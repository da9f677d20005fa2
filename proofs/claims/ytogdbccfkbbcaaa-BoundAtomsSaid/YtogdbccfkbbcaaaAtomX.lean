/- The walks of package atom: Write, Bytes, Size. -/
import Derived.Test.YtogdbccfkbbcaaaAtomT
namespace Go.Proofs.Ytogdbccfkbbcaaa
open Go.RowKit
set_option linter.unusedSimpArgs false
theorem info_at : (Try.prog.info? 32).map (·.size) = some 21 := by kernel_rfl
/-- What an atom's numbers are below. -/
structure AtSmall (a : At) : Prop where
  cart : a.k.cart < 65536
  seq : a.k.seq < 4294967296
  n : a.v.n < 18446744073709551616
set_option maxHeartbeats 4000000 in
set_option maxRecDepth 100000 in
theorem awrite_calls (a : At) (p : Nat) (w : World) (hs : AtSmall a) (hf : Fine a) (hp : Blk w p 113 #[.slice none 0 0]) :
    Calls Try.prog 54 #[.pointer (some ⟨p, 0, none⟩), .agg #[.int .u8 (a.k.sort.toNat : Int), .int .u16 (a.k.cart : Int), .int .u8 (a.k.item.b0.toNat : Int), .int .u8 (a.k.item.b1.toNat : Int), .int .u8 (a.k.item.b2.toNat : Int), .int .u8 (a.k.item.b3.toNat : Int), .int .u8 (a.k.item.b4.toNat : Int), .int .u8 (a.k.item.b5.toNat : Int), .int .u8 (a.k.item.b6.toNat : Int), .int .u8 (a.k.item.b7.toNat : Int), .int .u8 (a.k.rep.toNat : Int), .int .u32 (a.k.seq : Int), .int .u64 (a.v.n : Int), .int .u8 (a.v.text.b0.toNat : Int), .int .u8 (a.v.text.b1.toNat : Int), .int .u8 (a.v.text.b2.toNat : Int), .int .u8 (a.v.text.b3.toNat : Int), .int .u8 (a.v.text.b4.toNat : Int), .int .u8 (a.v.text.b5.toNat : Int), .int .u8 (a.v.text.b6.toNat : Int), .int .u8 (a.v.text.b7.toNat : Int)]] w fun e w' => e = .returned (.tuple #[]) ∧ (∃ l' base, l'.length ≤ 20 ∧ Wr w' base p l') ∧ BelowX w.heap.size p w w' := by
  have hpl := hp.lt
  have hbk := Blk.new w 32 #[.int .u8 (a.k.sort.toNat : Int), .int .u16 (a.k.cart : Int), .int .u8 (a.k.item.b0.toNat : Int), .int .u8 (a.k.item.b1.toNat : Int), .int .u8 (a.k.item.b2.toNat : Int), .int .u8 (a.k.item.b3.toNat : Int), .int .u8 (a.k.item.b4.toNat : Int), .int .u8 (a.k.item.b5.toNat : Int), .int .u8 (a.k.item.b6.toNat : Int), .int .u8 (a.k.item.b7.toNat : Int), .int .u8 (a.k.rep.toNat : Int), .int .u32 (a.k.seq : Int), .int .u64 (a.v.n : Int), .int .u8 (a.v.text.b0.toNat : Int), .int .u8 (a.v.text.b1.toNat : Int), .int .u8 (a.v.text.b2.toNat : Int), .int .u8 (a.v.text.b3.toNat : Int), .int .u8 (a.v.text.b4.toNat : Int), .int .u8 (a.v.text.b5.toNat : Int), .int .u8 (a.v.text.b6.toNat : Int), .int .u8 (a.v.text.b7.toNat : Int)]
  have hp0 := hp.alloc (.cells #[.int .u8 (a.k.sort.toNat : Int), .int .u16 (a.k.cart : Int), .int .u8 (a.k.item.b0.toNat : Int), .int .u8 (a.k.item.b1.toNat : Int), .int .u8 (a.k.item.b2.toNat : Int), .int .u8 (a.k.item.b3.toNat : Int), .int .u8 (a.k.item.b4.toNat : Int), .int .u8 (a.k.item.b5.toNat : Int), .int .u8 (a.k.item.b6.toNat : Int), .int .u8 (a.k.item.b7.toNat : Int), .int .u8 (a.k.rep.toNat : Int), .int .u32 (a.k.seq : Int), .int .u64 (a.v.n : Int), .int .u8 (a.v.text.b0.toNat : Int), .int .u8 (a.v.text.b1.toNat : Int), .int .u8 (a.v.text.b2.toNat : Int), .int .u8 (a.v.text.b3.toNat : Int), .int .u8 (a.v.text.b4.toNat : Int), .int .u8 (a.v.text.b5.toNat : Int), .int .u8 (a.v.text.b6.toNat : Int), .int .u8 (a.v.text.b7.toNat : Int)] 32)
  have hs0 : (w.alloc (.cells #[.int .u8 (a.k.sort.toNat : Int), .int .u16 (a.k.cart : Int), .int .u8 (a.k.item.b0.toNat : Int), .int .u8 (a.k.item.b1.toNat : Int), .int .u8 (a.k.item.b2.toNat : Int), .int .u8 (a.k.item.b3.toNat : Int), .int .u8 (a.k.item.b4.toNat : Int), .int .u8 (a.k.item.b5.toNat : Int), .int .u8 (a.k.item.b6.toNat : Int), .int .u8 (a.k.item.b7.toNat : Int), .int .u8 (a.k.rep.toNat : Int), .int .u32 (a.k.seq : Int), .int .u64 (a.v.n : Int), .int .u8 (a.v.text.b0.toNat : Int), .int .u8 (a.v.text.b1.toNat : Int), .int .u8 (a.v.text.b2.toNat : Int), .int .u8 (a.v.text.b3.toNat : Int), .int .u8 (a.v.text.b4.toNat : Int), .int .u8 (a.v.text.b5.toNat : Int), .int .u8 (a.v.text.b6.toNat : Int), .int .u8 (a.v.text.b7.toNat : Int)] 32)).heap.size = w.heap.size + 1 := World.size_alloc _ _
  have hx0 : Hid (Below w.heap.size w (w.alloc (.cells #[.int .u8 (a.k.sort.toNat : Int), .int .u16 (a.k.cart : Int), .int .u8 (a.k.item.b0.toNat : Int), .int .u8 (a.k.item.b1.toNat : Int), .int .u8 (a.k.item.b2.toNat : Int), .int .u8 (a.k.item.b3.toNat : Int), .int .u8 (a.k.item.b4.toNat : Int), .int .u8 (a.k.item.b5.toNat : Int), .int .u8 (a.k.item.b6.toNat : Int), .int .u8 (a.k.item.b7.toNat : Int), .int .u8 (a.k.rep.toNat : Int), .int .u32 (a.k.seq : Int), .int .u64 (a.v.n : Int), .int .u8 (a.v.text.b0.toNat : Int), .int .u8 (a.v.text.b1.toNat : Int), .int .u8 (a.v.text.b2.toNat : Int), .int .u8 (a.v.text.b3.toNat : Int), .int .u8 (a.v.text.b4.toNat : Int), .int .u8 (a.v.text.b5.toNat : Int), .int .u8 (a.v.text.b6.toNat : Int), .int .u8 (a.v.text.b7.toNat : Int)] 32))) := (Below.refl _ _).alloc (Nat.le_refl _) _
  have hmf : ∀ (fn : Fn) (first cap : Array Value) (w : World), (Instr.makeFunc fn first cap).run Try.prog w = .ok (.func fn first cap) w := fun _ _ _ _ => rfl
  have hn := hs.n
  obtain ⟨x0, x1, x2, x3, x4, x5, x6, x7, x8, x9, x10, x11, x12, x13, x14, x15, x16, x17, x18, x19, x20⟩ := atCells hbk
  go_enter Try.func54, Try.ntmps54
  go_wp2_with fail
  generalize w.alloc (.cells #[.int .u8 (a.k.sort.toNat : Int), .int .u16 (a.k.cart : Int), .int .u8 (a.k.item.b0.toNat : Int), .int .u8 (a.k.item.b1.toNat : Int), .int .u8 (a.k.item.b2.toNat : Int), .int .u8 (a.k.item.b3.toNat : Int), .int .u8 (a.k.item.b4.toNat : Int), .int .u8 (a.k.item.b5.toNat : Int), .int .u8 (a.k.item.b6.toNat : Int), .int .u8 (a.k.item.b7.toNat : Int), .int .u8 (a.k.rep.toNat : Int), .int .u32 (a.k.seq : Int), .int .u64 (a.v.n : Int), .int .u8 (a.v.text.b0.toNat : Int), .int .u8 (a.v.text.b1.toNat : Int), .int .u8 (a.v.text.b2.toNat : Int), .int .u8 (a.v.text.b3.toNat : Int), .int .u8 (a.v.text.b4.toNat : Int), .int .u8 (a.v.text.b5.toNat : Int), .int .u8 (a.v.text.b6.toNat : Int), .int .u8 (a.v.text.b7.toNat : Int)] 32) = W0 at hbk hp0 hs0 hx0 x0 x1 x2 x3 x4 x5 x6 x7 x8 x9 x10 x11 x12 x13 x14 x15 x16 x17 x18 x19 x20 ⊢
  clear x0 x1 x2 x3 x4 x5 x6 x7 x8 x9 x10 x11 x12 x13 x14 x15 x16 x17 x18 x19 x20
  refine (kwrite_calls a.k p W0 hs.cart hs.seq hp0).mono ?_
  rintro r W1 ⟨rfl, ⟨l1, hl1, hw1⟩, hx1⟩
  rw [hs0] at hw1 hx1
  have hk1 := hx1.blk hbk (by omega) (by omega)
  have HW1 := Lib.hid hw1
  have HX1 : Hid (BelowX w.heap.size p w W1) := (BelowX.of hx0.out).trans (hx1.mono (by omega))
  have HL1 := Lib.hid hl1
  clear hw1 hx1 hbk hp0 hx0 hl1
  obtain ⟨x0, x1, x2, x3, x4, x5, x6, x7, x8, x9, x10, x11, x12, x13, x14, x15, x16, x17, x18, x19, x20⟩ := atCells hk1
  have T : a.k.sort.toNat = 1 ∨ (a.k.sort.toNat = 2 ∨ a.k.sort.toNat = 3) ∨ a.k.sort.toNat = 4 := by have := hf.1; have := hf.2.1; omega
  rcases T with T | T | T
  · have t1 : ((a.k.sort.toNat : Int) == 1) = true := by simp; omega
    have hm : kyMost a.k.sort = 19 := by unfold kyMost; rw [if_neg (by omega), if_pos T]
    have hw8 : IntKind.u8.wrap (a.v.n : Int) = ((UInt8.ofNat (a.v.n % 256)).toNat : Int) := by
      show (a.v.n : Int) % 256 = _
      rw [UInt8.toNat_ofNat']
      omega
    generalize UInt8.ofNat (a.v.n % 256) = y at hw8
    clear T
    go_wp2_with fail
    clear x0 x1 x2 x3 x4 x5 x6 x7 x8 x9 x10 x11 x12 x13 x14 x15 x16 x17 x18 x19 x20
    refine (byte_calls (w.heap.size + 1 + 1) p l1 y W1 (by have := HL1.out; omega) HW1.out).mono ?_
    rintro r W2 ⟨rfl, hw2, hx2⟩
    have HW2 := Lib.hid hw2
    have HX2 := Lib.hid (HX1.out.trans (hx2.mono (by omega)))
    have HL2 : Hid ((l1 ++ [y]).length ≤ 20) := by show _ ≤ _; have := HL1.out; rw [List.length_append, List.length_singleton]; omega
    clear hw2 hx2 HW1 HX1 hk1 hm
    go_wp2
    go_end0
    exact ⟨rfl, ⟨_, _, HL2.out, HW2.out⟩, HX2.out⟩
  · have t1 : ((a.k.sort.toNat : Int) == 1) = false := by simp; omega
    have t4 : ((a.k.sort.toNat : Int) == 4) = false := by simp; omega
    have hm : kyMost a.k.sort = 14 := by unfold kyMost; rw [if_neg (by omega), if_neg (by omega)]
    have hz := szS_le a.v.n 5 (by have := hf.2.2.1 T; omega) (by omega) hn
    clear T
    go_wp2_with fail
    clear x0 x1 x2 x3 x4 x5 x6 x7 x8 x9 x10 x11 x12 x13 x14 x15 x16 x17 x18 x19 x20
    refine (num_calls (w.heap.size + 1 + 1) p l1 a.v.n hn W1 (by have := HL1.out; omega) HW1.out).mono ?_
    rintro r W2 ⟨rfl, hw2, hx2⟩
    have HW2 := Lib.hid hw2
    have HX2 := Lib.hid (HX1.out.trans (hx2.mono (by omega)))
    have HL2 : Hid ((l1 ++ varL a.v.n).length ≤ 20) := by show _ ≤ _; have := HL1.out; rw [List.length_append, varL_length]; omega
    clear hw2 hx2 HW1 HX1 hk1 hm
    go_wp2
    go_end0
    exact ⟨rfl, ⟨_, _, HL2.out, HW2.out⟩, HX2.out⟩
  · have t1 : ((a.k.sort.toNat : Int) == 1) = false := by simp; omega
    have t4 : ((a.k.sort.toNat : Int) == 4) = true := by simp; omega
    have hm : kyMost a.k.sort = 4 := by unfold kyMost; rw [if_pos T]
    have hz := szS_le a.v.n 6 (by have := hf.2.2.2 T; omega) (by omega) hn
    clear T
    go_wp2_with fail
    clear x0 x1 x2 x3 x4 x5 x6 x7 x8 x9 x10 x11 x12 x13 x14 x15 x16 x17 x18 x19 x20
    refine (num_calls (w.heap.size + 1 + 1) p l1 a.v.n hn W1 (by have := HL1.out; omega) HW1.out).mono ?_
    rintro r W2 ⟨rfl, hw2, hx2⟩
    have HW2 := Lib.hid hw2
    have HX2 := Lib.hid (HX1.out.trans (hx2.mono (by omega)))
    have HL2 : Hid ((l1 ++ varL a.v.n).length ≤ 10) := by show _ ≤ _; have := HL1.out; rw [List.length_append, varL_length]; omega
    have hk2 := hx2.blk hk1 (by omega) (by omega)
    clear hw2 hx2 HW1 HX1 hk1 hm
    obtain ⟨x0, x1, x2, x3, x4, x5, x6, x7, x8, x9, x10, x11, x12, x13, x14, x15, x16, x17, x18, x19, x20⟩ := atCells hk2
    go_wp2_with fail
    clear x0 x1 x2 x3 x4 x5 x6 x7 x8 x9 x10 x11 x12 x13 x14 x15 x16 x17 x18 x19 x20
    refine (wname_calls (w.heap.size + 1 + 1) p _ a.v.text W2 (by have := HL2.out; omega) HW2.out).mono ?_
    rintro r W3 ⟨rfl, ⟨l3, hl3, hw3⟩, hx3⟩
    have HW3 := Lib.hid hw3
    have HX3 := Lib.hid (HX2.out.trans (hx3.mono (by omega)))
    have HL3 : Hid ((l1 ++ varL a.v.n ++ l3).length ≤ 20) := by show _ ≤ _; have := HL2.out; rw [List.length_append]; omega
    clear hw3 hx3 HW2 HX2 hk2
    go_wp2
    go_end0
    exact ⟨rfl, ⟨_, _, HL3.out, HW3.out⟩, HX3.out⟩
set_option maxHeartbeats 4000000 in
set_option maxRecDepth 100000 in
theorem abytes_calls (a : At) (w : World) (hs : AtSmall a) : Calls Try.prog 23 #[.agg #[.int .u8 (a.k.sort.toNat : Int), .int .u16 (a.k.cart : Int), .int .u8 (a.k.item.b0.toNat : Int), .int .u8 (a.k.item.b1.toNat : Int), .int .u8 (a.k.item.b2.toNat : Int), .int .u8 (a.k.item.b3.toNat : Int), .int .u8 (a.k.item.b4.toNat : Int), .int .u8 (a.k.item.b5.toNat : Int), .int .u8 (a.k.item.b6.toNat : Int), .int .u8 (a.k.item.b7.toNat : Int), .int .u8 (a.k.rep.toNat : Int), .int .u32 (a.k.seq : Int), .int .u64 (a.v.n : Int), .int .u8 (a.v.text.b0.toNat : Int), .int .u8 (a.v.text.b1.toNat : Int), .int .u8 (a.v.text.b2.toNat : Int), .int .u8 (a.v.text.b3.toNat : Int), .int .u8 (a.v.text.b4.toNat : Int), .int .u8 (a.v.text.b5.toNat : Int), .int .u8 (a.v.text.b6.toNat : Int), .int .u8 (a.v.text.b7.toNat : Int)]] w fun r w' => (∃ (A : Option Addr) (n c : Nat), n ≤ 20 ∧ r = .returned (.slice A n c)) ∧ Below w.heap.size w w' := by
  have hbk := Blk.new w 32 #[.int .u8 (a.k.sort.toNat : Int), .int .u16 (a.k.cart : Int), .int .u8 (a.k.item.b0.toNat : Int), .int .u8 (a.k.item.b1.toNat : Int), .int .u8 (a.k.item.b2.toNat : Int), .int .u8 (a.k.item.b3.toNat : Int), .int .u8 (a.k.item.b4.toNat : Int), .int .u8 (a.k.item.b5.toNat : Int), .int .u8 (a.k.item.b6.toNat : Int), .int .u8 (a.k.item.b7.toNat : Int), .int .u8 (a.k.rep.toNat : Int), .int .u32 (a.k.seq : Int), .int .u64 (a.v.n : Int), .int .u8 (a.v.text.b0.toNat : Int), .int .u8 (a.v.text.b1.toNat : Int), .int .u8 (a.v.text.b2.toNat : Int), .int .u8 (a.v.text.b3.toNat : Int), .int .u8 (a.v.text.b4.toNat : Int), .int .u8 (a.v.text.b5.toNat : Int), .int .u8 (a.v.text.b6.toNat : Int), .int .u8 (a.v.text.b7.toNat : Int)]
  have hs0 : w.heap.size < (w.alloc (.cells #[.int .u8 (a.k.sort.toNat : Int), .int .u16 (a.k.cart : Int), .int .u8 (a.k.item.b0.toNat : Int), .int .u8 (a.k.item.b1.toNat : Int), .int .u8 (a.k.item.b2.toNat : Int), .int .u8 (a.k.item.b3.toNat : Int), .int .u8 (a.k.item.b4.toNat : Int), .int .u8 (a.k.item.b5.toNat : Int), .int .u8 (a.k.item.b6.toNat : Int), .int .u8 (a.k.item.b7.toNat : Int), .int .u8 (a.k.rep.toNat : Int), .int .u32 (a.k.seq : Int), .int .u64 (a.v.n : Int), .int .u8 (a.v.text.b0.toNat : Int), .int .u8 (a.v.text.b1.toNat : Int), .int .u8 (a.v.text.b2.toNat : Int), .int .u8 (a.v.text.b3.toNat : Int), .int .u8 (a.v.text.b4.toNat : Int), .int .u8 (a.v.text.b5.toNat : Int), .int .u8 (a.v.text.b6.toNat : Int), .int .u8 (a.v.text.b7.toNat : Int)] 32)).heap.size := by simp
  have hx0 : Hid (Below w.heap.size w (w.alloc (.cells #[.int .u8 (a.k.sort.toNat : Int), .int .u16 (a.k.cart : Int), .int .u8 (a.k.item.b0.toNat : Int), .int .u8 (a.k.item.b1.toNat : Int), .int .u8 (a.k.item.b2.toNat : Int), .int .u8 (a.k.item.b3.toNat : Int), .int .u8 (a.k.item.b4.toNat : Int), .int .u8 (a.k.item.b5.toNat : Int), .int .u8 (a.k.item.b6.toNat : Int), .int .u8 (a.k.item.b7.toNat : Int), .int .u8 (a.k.rep.toNat : Int), .int .u32 (a.k.seq : Int), .int .u64 (a.v.n : Int), .int .u8 (a.v.text.b0.toNat : Int), .int .u8 (a.v.text.b1.toNat : Int), .int .u8 (a.v.text.b2.toNat : Int), .int .u8 (a.v.text.b3.toNat : Int), .int .u8 (a.v.text.b4.toNat : Int), .int .u8 (a.v.text.b5.toNat : Int), .int .u8 (a.v.text.b6.toNat : Int), .int .u8 (a.v.text.b7.toNat : Int)] 32))) := (Below.refl _ _).alloc (Nat.le_refl _) _
  go_enter Try.func23, Try.ntmps23
  go_upto_region 1 with (fail)
  generalize w.alloc (.cells #[.int .u8 (a.k.sort.toNat : Int), .int .u16 (a.k.cart : Int), .int .u8 (a.k.item.b0.toNat : Int), .int .u8 (a.k.item.b1.toNat : Int), .int .u8 (a.k.item.b2.toNat : Int), .int .u8 (a.k.item.b3.toNat : Int), .int .u8 (a.k.item.b4.toNat : Int), .int .u8 (a.k.item.b5.toNat : Int), .int .u8 (a.k.item.b6.toNat : Int), .int .u8 (a.k.item.b7.toNat : Int), .int .u8 (a.k.rep.toNat : Int), .int .u32 (a.k.seq : Int), .int .u64 (a.v.n : Int), .int .u8 (a.v.text.b0.toNat : Int), .int .u8 (a.v.text.b1.toNat : Int), .int .u8 (a.v.text.b2.toNat : Int), .int .u8 (a.v.text.b3.toNat : Int), .int .u8 (a.v.text.b4.toNat : Int), .int .u8 (a.v.text.b5.toNat : Int), .int .u8 (a.v.text.b6.toNat : Int), .int .u8 (a.v.text.b7.toNat : Int)] 32) = W0 at hbk hs0 hx0 ⊢
  go_wp2_with (refine wpList_load_row rfl 32 (.tmp 1) rfl w.heap.size rfl 32 #[.int .u8 (a.k.sort.toNat : Int), .int .u16 (a.k.cart : Int), .int .u8 (a.k.item.b0.toNat : Int), .int .u8 (a.k.item.b1.toNat : Int), .int .u8 (a.k.item.b2.toNat : Int), .int .u8 (a.k.item.b3.toNat : Int), .int .u8 (a.k.item.b4.toNat : Int), .int .u8 (a.k.item.b5.toNat : Int), .int .u8 (a.k.item.b6.toNat : Int), .int .u8 (a.k.item.b7.toNat : Int), .int .u8 (a.k.rep.toNat : Int), .int .u32 (a.k.seq : Int), .int .u64 (a.v.n : Int), .int .u8 (a.v.text.b0.toNat : Int), .int .u8 (a.v.text.b1.toNat : Int), .int .u8 (a.v.text.b2.toNat : Int), .int .u8 (a.v.text.b3.toNat : Int), .int .u8 (a.v.text.b4.toNat : Int), .int .u8 (a.v.text.b5.toNat : Int), .int .u8 (a.v.text.b6.toNat : Int), .int .u8 (a.v.text.b7.toNat : Int)] (0, 0) _ hbk.out Try.underlying32 rfl info_at ?_)
  refine (aright_calls a W0).mono ?_
  rintro r W1 ⟨⟨b, rfl, hfb⟩, hb1⟩
  have hk1 := hbk.below hb1 hs0
  have HB1 := Lib.hid (hx0.out.trans (hb1.mono (by omega)))
  have hs1 : w.heap.size < W1.heap.size := by have := hb1.size; omega
  clear hb1 hbk hx0
  cases b
  · clear hfb
    go_wp2
    go_ret
    exact ⟨⟨none, 0, 0, by omega, rfl⟩, HB1.out⟩
  · have hf := Lib.hid (hfb rfl)
    clear hfb
    go_wp2_with fail
    refine (new_calls _).mono ?_
    rintro r W2 ⟨rfl, hs2, hp2, hb2⟩
    have hk2 := hk1.below hb2 hs1
    have HB2 := Lib.hid (HB1.out.trans (hb2.mono (by omega)))
    clear hb2 hk1 HB1
    generalize hpq : W1.heap.size = p at hp2 ⊢
    go_wp2_with (refine wpList_load_row rfl 32 (.tmp 1) rfl w.heap.size rfl 32 #[.int .u8 (a.k.sort.toNat : Int), .int .u16 (a.k.cart : Int), .int .u8 (a.k.item.b0.toNat : Int), .int .u8 (a.k.item.b1.toNat : Int), .int .u8 (a.k.item.b2.toNat : Int), .int .u8 (a.k.item.b3.toNat : Int), .int .u8 (a.k.item.b4.toNat : Int), .int .u8 (a.k.item.b5.toNat : Int), .int .u8 (a.k.item.b6.toNat : Int), .int .u8 (a.k.item.b7.toNat : Int), .int .u8 (a.k.rep.toNat : Int), .int .u32 (a.k.seq : Int), .int .u64 (a.v.n : Int), .int .u8 (a.v.text.b0.toNat : Int), .int .u8 (a.v.text.b1.toNat : Int), .int .u8 (a.v.text.b2.toNat : Int), .int .u8 (a.v.text.b3.toNat : Int), .int .u8 (a.v.text.b4.toNat : Int), .int .u8 (a.v.text.b5.toNat : Int), .int .u8 (a.v.text.b6.toNat : Int), .int .u8 (a.v.text.b7.toNat : Int)] (0, 0) _ hk2.out Try.underlying32 rfl info_at ?_)
    refine (awrite_calls a p W2 hs hf.out hp2).mono ?_
    rintro r W3 ⟨rfl, ⟨l3, base, hl3, hw3⟩, hx3⟩
    have HW3 := Lib.hid hw3
    have hx3b := hx3.below (B' := w.heap.size) (by omega) (by omega)
    have HB3 := Lib.hid (HB2.out.trans hx3b)
    have hs3 := hx3b.size
    have hl3' := Lib.hid hl3
    clear hw3 hx3 hx3b HB2 hk2
    go_wp2_with fail
    refine (out_calls base p l3 _ (by omega) HW3.out).mono ?_
    rintro r W4 ⟨A, c, rfl, hc, hr4, hb4⟩
    have HB4 := Lib.hid (HB3.out.trans (hb4.mono (by omega)))
    clear hb4 hr4 HB3
    go_wp2
    go_ret
    exact ⟨⟨A, _, c, hl3'.out, rfl⟩, HB4.out⟩
set_option maxRecDepth 100000 in
theorem asize_calls (a : At) (w : World) (hs : AtSmall a) : Calls Try.prog 8 #[.agg #[.int .u8 (a.k.sort.toNat : Int), .int .u16 (a.k.cart : Int), .int .u8 (a.k.item.b0.toNat : Int), .int .u8 (a.k.item.b1.toNat : Int), .int .u8 (a.k.item.b2.toNat : Int), .int .u8 (a.k.item.b3.toNat : Int), .int .u8 (a.k.item.b4.toNat : Int), .int .u8 (a.k.item.b5.toNat : Int), .int .u8 (a.k.item.b6.toNat : Int), .int .u8 (a.k.item.b7.toNat : Int), .int .u8 (a.k.rep.toNat : Int), .int .u32 (a.k.seq : Int), .int .u64 (a.v.n : Int), .int .u8 (a.v.text.b0.toNat : Int), .int .u8 (a.v.text.b1.toNat : Int), .int .u8 (a.v.text.b2.toNat : Int), .int .u8 (a.v.text.b3.toNat : Int), .int .u8 (a.v.text.b4.toNat : Int), .int .u8 (a.v.text.b5.toNat : Int), .int .u8 (a.v.text.b6.toNat : Int), .int .u8 (a.v.text.b7.toNat : Int)]] w fun r w' => (∃ n : Nat, n ≤ 20 ∧ r = .returned (.int .i64 (n : Int))) ∧ Below w.heap.size w w' := by
  have hbk := Blk.new w 32 #[.int .u8 (a.k.sort.toNat : Int), .int .u16 (a.k.cart : Int), .int .u8 (a.k.item.b0.toNat : Int), .int .u8 (a.k.item.b1.toNat : Int), .int .u8 (a.k.item.b2.toNat : Int), .int .u8 (a.k.item.b3.toNat : Int), .int .u8 (a.k.item.b4.toNat : Int), .int .u8 (a.k.item.b5.toNat : Int), .int .u8 (a.k.item.b6.toNat : Int), .int .u8 (a.k.item.b7.toNat : Int), .int .u8 (a.k.rep.toNat : Int), .int .u32 (a.k.seq : Int), .int .u64 (a.v.n : Int), .int .u8 (a.v.text.b0.toNat : Int), .int .u8 (a.v.text.b1.toNat : Int), .int .u8 (a.v.text.b2.toNat : Int), .int .u8 (a.v.text.b3.toNat : Int), .int .u8 (a.v.text.b4.toNat : Int), .int .u8 (a.v.text.b5.toNat : Int), .int .u8 (a.v.text.b6.toNat : Int), .int .u8 (a.v.text.b7.toNat : Int)]
  have hs0 : w.heap.size < (w.alloc (.cells #[.int .u8 (a.k.sort.toNat : Int), .int .u16 (a.k.cart : Int), .int .u8 (a.k.item.b0.toNat : Int), .int .u8 (a.k.item.b1.toNat : Int), .int .u8 (a.k.item.b2.toNat : Int), .int .u8 (a.k.item.b3.toNat : Int), .int .u8 (a.k.item.b4.toNat : Int), .int .u8 (a.k.item.b5.toNat : Int), .int .u8 (a.k.item.b6.toNat : Int), .int .u8 (a.k.item.b7.toNat : Int), .int .u8 (a.k.rep.toNat : Int), .int .u32 (a.k.seq : Int), .int .u64 (a.v.n : Int), .int .u8 (a.v.text.b0.toNat : Int), .int .u8 (a.v.text.b1.toNat : Int), .int .u8 (a.v.text.b2.toNat : Int), .int .u8 (a.v.text.b3.toNat : Int), .int .u8 (a.v.text.b4.toNat : Int), .int .u8 (a.v.text.b5.toNat : Int), .int .u8 (a.v.text.b6.toNat : Int), .int .u8 (a.v.text.b7.toNat : Int)] 32)).heap.size := by simp
  have hx0 : Hid (Below w.heap.size w (w.alloc (.cells #[.int .u8 (a.k.sort.toNat : Int), .int .u16 (a.k.cart : Int), .int .u8 (a.k.item.b0.toNat : Int), .int .u8 (a.k.item.b1.toNat : Int), .int .u8 (a.k.item.b2.toNat : Int), .int .u8 (a.k.item.b3.toNat : Int), .int .u8 (a.k.item.b4.toNat : Int), .int .u8 (a.k.item.b5.toNat : Int), .int .u8 (a.k.item.b6.toNat : Int), .int .u8 (a.k.item.b7.toNat : Int), .int .u8 (a.k.rep.toNat : Int), .int .u32 (a.k.seq : Int), .int .u64 (a.v.n : Int), .int .u8 (a.v.text.b0.toNat : Int), .int .u8 (a.v.text.b1.toNat : Int), .int .u8 (a.v.text.b2.toNat : Int), .int .u8 (a.v.text.b3.toNat : Int), .int .u8 (a.v.text.b4.toNat : Int), .int .u8 (a.v.text.b5.toNat : Int), .int .u8 (a.v.text.b6.toNat : Int), .int .u8 (a.v.text.b7.toNat : Int)] 32))) := (Below.refl _ _).alloc (Nat.le_refl _) _
  go_enter Try.func8, Try.ntmps8
  go_upto_region 1 with (fail)
  generalize w.alloc (.cells #[.int .u8 (a.k.sort.toNat : Int), .int .u16 (a.k.cart : Int), .int .u8 (a.k.item.b0.toNat : Int), .int .u8 (a.k.item.b1.toNat : Int), .int .u8 (a.k.item.b2.toNat : Int), .int .u8 (a.k.item.b3.toNat : Int), .int .u8 (a.k.item.b4.toNat : Int), .int .u8 (a.k.item.b5.toNat : Int), .int .u8 (a.k.item.b6.toNat : Int), .int .u8 (a.k.item.b7.toNat : Int), .int .u8 (a.k.rep.toNat : Int), .int .u32 (a.k.seq : Int), .int .u64 (a.v.n : Int), .int .u8 (a.v.text.b0.toNat : Int), .int .u8 (a.v.text.b1.toNat : Int), .int .u8 (a.v.text.b2.toNat : Int), .int .u8 (a.v.text.b3.toNat : Int), .int .u8 (a.v.text.b4.toNat : Int), .int .u8 (a.v.text.b5.toNat : Int), .int .u8 (a.v.text.b6.toNat : Int), .int .u8 (a.v.text.b7.toNat : Int)] 32) = W0 at hbk hs0 hx0 ⊢
  go_wp2_with (refine wpList_load_row rfl 32 (.tmp 1) rfl w.heap.size rfl 32 #[.int .u8 (a.k.sort.toNat : Int), .int .u16 (a.k.cart : Int), .int .u8 (a.k.item.b0.toNat : Int), .int .u8 (a.k.item.b1.toNat : Int), .int .u8 (a.k.item.b2.toNat : Int), .int .u8 (a.k.item.b3.toNat : Int), .int .u8 (a.k.item.b4.toNat : Int), .int .u8 (a.k.item.b5.toNat : Int), .int .u8 (a.k.item.b6.toNat : Int), .int .u8 (a.k.item.b7.toNat : Int), .int .u8 (a.k.rep.toNat : Int), .int .u32 (a.k.seq : Int), .int .u64 (a.v.n : Int), .int .u8 (a.v.text.b0.toNat : Int), .int .u8 (a.v.text.b1.toNat : Int), .int .u8 (a.v.text.b2.toNat : Int), .int .u8 (a.v.text.b3.toNat : Int), .int .u8 (a.v.text.b4.toNat : Int), .int .u8 (a.v.text.b5.toNat : Int), .int .u8 (a.v.text.b6.toNat : Int), .int .u8 (a.v.text.b7.toNat : Int)] (0, 0) _ hbk.out Try.underlying32 rfl info_at ?_)
  refine (abytes_calls a W0 hs).mono ?_
  rintro r W1 ⟨⟨A, n, c, hn, rfl⟩, hb1⟩
  have HB1 := Lib.hid (hx0.out.trans (hb1.mono (by omega)))
  have hn' := Lib.hid hn
  clear hb1 hbk hx0 hn
  go_wp2
  go_ret
  exact ⟨⟨n, hn'.out, rfl⟩, HB1.out⟩
end Go.Proofs.Ytogdbccfkbbcaaa
