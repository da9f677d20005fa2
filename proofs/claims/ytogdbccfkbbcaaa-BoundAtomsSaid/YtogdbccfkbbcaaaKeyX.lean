/- The walk: a key, written. -/
import Derived.Test.YtogdbccfkbbcaaaKeyW
import Derived.Test.YtogdbccfkbbcaaaFrameL
namespace Go.Proofs.Ytogdbccfkbbcaaa
open Go.RowKit
set_option linter.unusedSimpArgs false
theorem kyCells {w : World} {g : Nat} {t : TypeId} {k : Ky} (h : Blk w g t #[.int .u8 (k.sort.toNat : Int), .int .u16 (k.cart : Int), .int .u8 (k.item.b0.toNat : Int), .int .u8 (k.item.b1.toNat : Int), .int .u8 (k.item.b2.toNat : Int), .int .u8 (k.item.b3.toNat : Int), .int .u8 (k.item.b4.toNat : Int), .int .u8 (k.item.b5.toNat : Int), .int .u8 (k.item.b6.toNat : Int), .int .u8 (k.item.b7.toNat : Int), .int .u8 (k.rep.toNat : Int), .int .u32 (k.seq : Int)]) : w.cell? ⟨g, 0, none⟩ = some (.int .u8 (k.sort.toNat : Int)) ∧ w.cell? ⟨g, 1, none⟩ = some (.int .u16 (k.cart : Int)) ∧
    (w.cell? ⟨g, 2, none⟩ = some (.int .u8 (k.item.b0.toNat : Int)) ∧ w.cell? ⟨g, 3, none⟩ = some (.int .u8 (k.item.b1.toNat : Int)) ∧ w.cell? ⟨g, 4, none⟩ = some (.int .u8 (k.item.b2.toNat : Int)) ∧ w.cell? ⟨g, 5, none⟩ = some (.int .u8 (k.item.b3.toNat : Int)) ∧ w.cell? ⟨g, 6, none⟩ = some (.int .u8 (k.item.b4.toNat : Int)) ∧ w.cell? ⟨g, 7, none⟩ = some (.int .u8 (k.item.b5.toNat : Int)) ∧ w.cell? ⟨g, 8, none⟩ = some (.int .u8 (k.item.b6.toNat : Int)) ∧ w.cell? ⟨g, 9, none⟩ = some (.int .u8 (k.item.b7.toNat : Int))) ∧
    w.cell? ⟨g, 10, none⟩ = some (.int .u8 (k.rep.toNat : Int)) ∧ w.cell? ⟨g, 11, none⟩ = some (.int .u32 (k.seq : Int)) :=
  ⟨h.cell 0, h.cell 1, ⟨h.cell 2, h.cell 3, h.cell 4, h.cell 5, h.cell 6, h.cell 7, h.cell 8, h.cell 9⟩, h.cell 10, h.cell 11⟩
theorem BelowX.mono {B B' p : Nat} {w w' : World} (h : BelowX B p w w') (hB : B' ≤ B) : BelowX B' p w w' := ⟨h.os, h.tape, h.output, h.size, fun k hk hp => h.block k (by omega) hp⟩
def kyMost (s : UInt8) : Nat := if s.toNat = 4 then 4 else if s.toNat = 1 then 19 else 14
set_option maxHeartbeats 2000000 in
set_option maxRecDepth 100000 in
theorem kwrite_calls (k : Ky) (p : Nat) (w : World) (hc : k.cart < 65536) (hq : k.seq < 4294967296) (hp : Blk w p 113 #[.slice none 0 0]) :
    Calls Try.prog 84 #[.pointer (some ⟨p, 0, none⟩), .agg #[.int .u8 (k.sort.toNat : Int), .int .u16 (k.cart : Int), .int .u8 (k.item.b0.toNat : Int), .int .u8 (k.item.b1.toNat : Int), .int .u8 (k.item.b2.toNat : Int), .int .u8 (k.item.b3.toNat : Int), .int .u8 (k.item.b4.toNat : Int), .int .u8 (k.item.b5.toNat : Int), .int .u8 (k.item.b6.toNat : Int), .int .u8 (k.item.b7.toNat : Int), .int .u8 (k.rep.toNat : Int), .int .u32 (k.seq : Int)]] w fun e w' => e = .returned (.tuple #[]) ∧ (∃ l', l'.length ≤ kyMost k.sort ∧ Wr w' (w.heap.size + 1) p l') ∧ BelowX w.heap.size p w w' := by
  have hpl := hp.lt
  have hbk := Blk.new w 27 #[.int .u8 (k.sort.toNat : Int), .int .u16 (k.cart : Int), .int .u8 (k.item.b0.toNat : Int), .int .u8 (k.item.b1.toNat : Int), .int .u8 (k.item.b2.toNat : Int), .int .u8 (k.item.b3.toNat : Int), .int .u8 (k.item.b4.toNat : Int), .int .u8 (k.item.b5.toNat : Int), .int .u8 (k.item.b6.toNat : Int), .int .u8 (k.item.b7.toNat : Int), .int .u8 (k.rep.toNat : Int), .int .u32 (k.seq : Int)]
  have hp0 := hp.alloc (.cells #[.int .u8 (k.sort.toNat : Int), .int .u16 (k.cart : Int), .int .u8 (k.item.b0.toNat : Int), .int .u8 (k.item.b1.toNat : Int), .int .u8 (k.item.b2.toNat : Int), .int .u8 (k.item.b3.toNat : Int), .int .u8 (k.item.b4.toNat : Int), .int .u8 (k.item.b5.toNat : Int), .int .u8 (k.item.b6.toNat : Int), .int .u8 (k.item.b7.toNat : Int), .int .u8 (k.rep.toNat : Int), .int .u32 (k.seq : Int)] 27)
  have hs0 : (w.alloc (.cells #[.int .u8 (k.sort.toNat : Int), .int .u16 (k.cart : Int), .int .u8 (k.item.b0.toNat : Int), .int .u8 (k.item.b1.toNat : Int), .int .u8 (k.item.b2.toNat : Int), .int .u8 (k.item.b3.toNat : Int), .int .u8 (k.item.b4.toNat : Int), .int .u8 (k.item.b5.toNat : Int), .int .u8 (k.item.b6.toNat : Int), .int .u8 (k.item.b7.toNat : Int), .int .u8 (k.rep.toNat : Int), .int .u32 (k.seq : Int)] 27)).heap.size = w.heap.size + 1 := World.size_alloc _ _
  have hx0 : Hid (Below w.heap.size w (w.alloc (.cells #[.int .u8 (k.sort.toNat : Int), .int .u16 (k.cart : Int), .int .u8 (k.item.b0.toNat : Int), .int .u8 (k.item.b1.toNat : Int), .int .u8 (k.item.b2.toNat : Int), .int .u8 (k.item.b3.toNat : Int), .int .u8 (k.item.b4.toNat : Int), .int .u8 (k.item.b5.toNat : Int), .int .u8 (k.item.b6.toNat : Int), .int .u8 (k.item.b7.toNat : Int), .int .u8 (k.rep.toNat : Int), .int .u32 (k.seq : Int)] 27))) := (Below.refl _ _).alloc (Nat.le_refl _) _
  have z1 := szS_le k.cart 3 (by omega) (by omega) (by omega)
  have z2 := szS_le k.seq 5 (by omega) (by omega) (by omega)
  have wv1 : IntKind.u64.wrap (k.cart : Int) = (k.cart : Int) := wrap_u64_nat _ (by omega)
  have wv2 : IntKind.u64.wrap (k.seq : Int) = (k.seq : Int) := wrap_u64_nat _ (by omega)
  obtain ⟨c0, c1, _, _, _⟩ := kyCells hbk
  go_enter Try.func84, Try.ntmps84
  go_wp2_with fail
  generalize w.alloc (.cells #[.int .u8 (k.sort.toNat : Int), .int .u16 (k.cart : Int), .int .u8 (k.item.b0.toNat : Int), .int .u8 (k.item.b1.toNat : Int), .int .u8 (k.item.b2.toNat : Int), .int .u8 (k.item.b3.toNat : Int), .int .u8 (k.item.b4.toNat : Int), .int .u8 (k.item.b5.toNat : Int), .int .u8 (k.item.b6.toNat : Int), .int .u8 (k.item.b7.toNat : Int), .int .u8 (k.rep.toNat : Int), .int .u32 (k.seq : Int)] 27) = W0 at hbk hp0 hs0 hx0 c0 c1 ⊢
  clear c0 c1
  refine (byte_calls (w.heap.size + 1) p [] k.sort W0 (by simp) (Wr.start hp0 (by omega) (by omega))).mono ?_
  rintro r W1 ⟨rfl, hw1, hx1⟩
  have hk1 := hx1.blk hbk (by omega) (by omega)
  have HW1 := Lib.hid hw1
  have HX1 := Lib.hid hx1
  clear hw1 hx1 hbk hp0
  obtain ⟨c0, c1, ⟨c2, c3, c4, c5, c6, c7, c8, c9⟩, c10, c11⟩ := kyCells hk1
  go_wp2_with fail
  clear c0 c1 c2 c3 c4 c5 c6 c7 c8 c9 c10 c11
  refine (num_calls (w.heap.size + 1) p _ k.cart (by omega) W1 (by simp) HW1.out).mono ?_
  rintro r W2 ⟨rfl, hw2, hx2⟩
  have hk2 := hx2.blk hk1 (by omega) (by omega)
  have HW2 := Lib.hid hw2
  have HX2 := Lib.hid (HX1.out.trans hx2)
  clear hw2 hx2 hk1 HW1 HX1
  obtain ⟨c0, c1, ⟨c2, c3, c4, c5, c6, c7, c8, c9⟩, c10, c11⟩ := kyCells hk2
  have hl2 : (([] ++ [k.sort]) ++ varL k.cart).length ≤ 4 := by simp [varL_length]; omega
  have HL2 := Lib.hid hl2
  clear hl2
  by_cases h4 : k.sort.toNat = 4
  · have t4 : ((k.sort.toNat : Int) == 4) = true := by simp; omega
    have hm : Hid (4 ≤ kyMost k.sort) := by show _ ≤ _; unfold kyMost; rw [if_pos h4]; omega
    clear h4
    go_wp2
    refine bodyPost_ret (results_none rfl _ _ _) rfl ?_
    exact ⟨rfl, ⟨_, Nat.le_trans HL2.out hm.out, HW2.out⟩, (BelowX.of hx0.out).trans (HX2.out.mono (by omega))⟩
  · have t4 : ((k.sort.toNat : Int) == 4) = false := by simp; omega
    go_wp2_with fail
    clear c0 c1 c2 c3 c4 c5 c6 c7 c8 c9 c10 c11
    refine (wname_calls (w.heap.size + 1) p _ k.item W2 (by have := HL2.out; omega) HW2.out).mono ?_
    rintro r W3 ⟨rfl, ⟨l3, hl3, hw3⟩, hx3⟩
    have hk3 := hx3.blk hk2 (by omega) (by omega)
    have HW3 := Lib.hid hw3
    have HX3 := Lib.hid (HX2.out.trans hx3)
    clear hw3 hx3 hk2 HW2 HX2
    obtain ⟨c0, c1, ⟨c2, c3, c4, c5, c6, c7, c8, c9⟩, c10, c11⟩ := kyCells hk3
    go_wp2_with fail
    clear c0 c1 c2 c3 c4 c5 c6 c7 c8 c9 c10 c11
    refine (byte_calls (w.heap.size + 1) p _ k.rep W3 (by have := HL2.out; rw [List.length_append]; omega) HW3.out).mono ?_
    rintro r W4 ⟨rfl, hw4, hx4⟩
    have hk4 := hx4.blk hk3 (by omega) (by omega)
    have HW4 := Lib.hid hw4
    have HX4 := Lib.hid (HX3.out.trans hx4)
    clear hw4 hx4 hk3 HW3 HX3
    obtain ⟨c0, c1, ⟨c2, c3, c4, c5, c6, c7, c8, c9⟩, c10, c11⟩ := kyCells hk4
    have hl4 : ((([] ++ [k.sort]) ++ varL k.cart ++ l3) ++ [k.rep]).length ≤ 14 := by have := HL2.out; rw [List.length_append, List.length_append, List.length_singleton]; omega
    have HL4 := Lib.hid hl4
    clear hl4
    by_cases h1 : k.sort.toNat = 1
    · have t1 : ((k.sort.toNat : Int) == 1) = true := by simp; omega
      have hm : Hid (kyMost k.sort = 19) := by show _ = _; unfold kyMost; rw [if_neg h4, if_pos h1]
      clear h1 h4
      go_wp2_with fail
      clear c0 c1 c2 c3 c4 c5 c6 c7 c8 c9 c10 c11
      refine (num_calls (w.heap.size + 1) p _ k.seq (by omega) W4 (by have := HL4.out; omega) HW4.out).mono ?_
      rintro r W5 ⟨rfl, hw5, hx5⟩
      have HW5 := Lib.hid hw5
      have HX5 := Lib.hid (HX4.out.trans hx5)
      clear hw5 hx5 hk4 HW4 HX4
      go_wp2
      go_end0
      exact ⟨rfl, ⟨_, by rw [hm.out, List.length_append, varL_length]; have := HL4.out; omega, HW5.out⟩, (BelowX.of hx0.out).trans (HX5.out.mono (by omega))⟩
    · have t1 : ((k.sort.toNat : Int) == 1) = false := by simp; omega
      have hm : Hid (kyMost k.sort = 14) := by show _ = _; unfold kyMost; rw [if_neg h4, if_neg h1]
      clear h1 h4
      go_wp2
      go_end0
      exact ⟨rfl, ⟨_, by rw [hm.out]; exact HL4.out, HW4.out⟩, (BelowX.of hx0.out).trans (HX4.out.mono (by omega))⟩
end Go.Proofs.Ytogdbccfkbbcaaa
