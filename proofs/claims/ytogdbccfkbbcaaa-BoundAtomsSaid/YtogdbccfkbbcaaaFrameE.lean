/- The walks of package frame: Encode. -/
import Derived.Test.YtogdbccfkbbcaaaFrameC
import Derived.Test.YtogdbccfkbbcaaaWriterW
import Derived.Test.YtogdbccfkbbcaaaCrcW
namespace Go.Proofs.Ytogdbccfkbbcaaa
open Go.RowKit
set_option linter.unusedSimpArgs false
def bit8 (b : Bool) : UInt8 := if b then 1 else 0
/-- What a frame is, ahead of its sum. -/
def bodyS (f : Fr) : List UInt8 := [f.kind] ++ [f.frm] ++ [f.too] ++ varL f.sess ++ varL f.seq ++ [f.part] ++ varL f.off ++ [bit8 f.last] ++ varL f.data.length ++ f.data
def encS (f : Fr) : List UInt8 := bodyS f ++ sealB (bodyS f)
theorem bodyS_length (f : Fr) : (bodyS f).length ≤ f.data.length + 45 := by
  have h1 := szS_rng f.sess
  have h2 := szS_rng f.seq
  have h3 := szS_rng f.off
  have h4 := szS_rng f.data.length
  simp only [bodyS, List.length_append, List.length_cons, List.length_nil, varL_length]
  omega
theorem checkE_zero (f : Fr) (h : checkE f = 0) : f.data.length ≤ 65536 := by
  cases h1 : kindB f <;> cases h2 : endsB f <;> cases h3 : sizeB f <;> simp [checkE, firstE, h1, h2, h3] at h
  simpa [sizeB] using h3
/-- The cells of a frame's block. -/
theorem frCells {f : Fr} {A : Option Addr} {n c g : Nat} {w : World} (hb : Blk w g 38 #[.int .u8 (f.kind.toNat : Int), .int .u8 (f.frm.toNat : Int), .int .u8 (f.too.toNat : Int), .int .u32 (f.sess : Int), .int .u32 (f.seq : Int), .int .u8 (f.part.toNat : Int), .int .u32 (f.off : Int), .bool f.last, .slice A n c]) :
    w.cell? ⟨g, 0, none⟩ = some (.int .u8 (f.kind.toNat : Int)) ∧ w.cell? ⟨g, 1, none⟩ = some (.int .u8 (f.frm.toNat : Int)) ∧ w.cell? ⟨g, 2, none⟩ = some (.int .u8 (f.too.toNat : Int)) ∧ w.cell? ⟨g, 3, none⟩ = some (.int .u32 (f.sess : Int)) ∧ w.cell? ⟨g, 4, none⟩ = some (.int .u32 (f.seq : Int)) ∧
    w.cell? ⟨g, 5, none⟩ = some (.int .u8 (f.part.toNat : Int)) ∧ w.cell? ⟨g, 6, none⟩ = some (.int .u32 (f.off : Int)) ∧ w.cell? ⟨g, 7, none⟩ = some (.bool f.last) ∧ w.cell? ⟨g, 8, none⟩ = some (.slice A n c) :=
  ⟨hb.cell 0, hb.cell 1, hb.cell 2, hb.cell 3, hb.cell 4, hb.cell 5, hb.cell 6, hb.cell 7, hb.cell 8⟩
theorem truth_calls (b : Bool) (w : World) :
    Calls Try.prog 31 #[.bool b] w fun r w' => r = .returned (.int .u8 ((bit8 b).toNat : Int)) ∧ w = w' := by
  cases b <;>
  · go_enter Try.func31, Try.ntmps31
    go_wp2
    go_ret
    exact ⟨rfl, rfl⟩
set_option maxRecDepth 100000 in
theorem encode_bad (f : Fr) (A : Option Addr) (n c : Nat) (hn : f.data.length = n) (w : World) (he : checkE f ≠ 0) :
    Calls Try.prog 14 #[.agg #[.int .u8 (f.kind.toNat : Int), .int .u8 (f.frm.toNat : Int), .int .u8 (f.too.toNat : Int), .int .u32 (f.sess : Int), .int .u32 (f.seq : Int), .int .u8 (f.part.toNat : Int), .int .u32 (f.off : Int), .bool f.last, .slice A n c]] w fun r w' => r = .returned (.tuple #[.slice none 0 0, .int .i64 (checkE f : Int)]) ∧ Below w.heap.size w w' := by
  have ht : ((checkE f : Int) != 0) = true := by simp; omega
  have HN := Lib.hid hn
  clear he hn
  go_enter Try.func14, Try.ntmps14
  go_wp2_with fail
  refine (check_calls f A n c HN.out _).mono ?_
  rintro r w1 ⟨rfl, hb⟩
  have HB := Lib.hid (((Below.refl w.heap.size w).alloc (Nat.le_refl _) (.cells #[.int .u8 (f.kind.toNat : Int), .int .u8 (f.frm.toNat : Int), .int .u8 (f.too.toNat : Int), .int .u32 (f.sess : Int), .int .u32 (f.seq : Int), .int .u8 (f.part.toNat : Int), .int .u32 (f.off : Int), .bool f.last, .slice A n c] 38)).trans (hb.mono (by simp)))
  clear hb
  go_wp2
  go_ret2
  exact ⟨rfl, HB.out⟩
set_option maxRecDepth 100000 in
theorem encode_good (f : Fr) (A : Option Addr) (n c : Nat) (hn : f.data.length = n) (w : World) (he : checkE f = 0) (hse : f.sess < 4294967296) (hsq : f.seq < 4294967296) (hof : f.off < 4294967296) (hr : Rd B8 w (fun b => b < w.heap.size) A f.data) :
    Calls Try.prog 14 #[.agg #[.int .u8 (f.kind.toNat : Int), .int .u8 (f.frm.toNat : Int), .int .u8 (f.too.toNat : Int), .int .u32 (f.sess : Int), .int .u32 (f.seq : Int), .int .u8 (f.part.toNat : Int), .int .u32 (f.off : Int), .bool f.last, .slice A n c]] w fun r w' => ∃ A' c', r = .returned (.tuple #[.slice A' (encS f).length c', .int .i64 0]) ∧ (encS f).length ≤ c' ∧ Rd B8 w' (fun b => w.heap.size ≤ b) A' (encS f) ∧ Below w.heap.size w w' := by
  have ht : ((checkE f : Int) != 0) = false := by simp; omega
  have hd := checkE_zero f he
  have HN := Lib.hid hn
  clear he hn
  go_enter Try.func14, Try.ntmps14
  go_wp2_with fail
  have hb0 := Blk.new w 38 #[.int .u8 (f.kind.toNat : Int), .int .u8 (f.frm.toNat : Int), .int .u8 (f.too.toNat : Int), .int .u32 (f.sess : Int), .int .u32 (f.seq : Int), .int .u8 (f.part.toNat : Int), .int .u32 (f.off : Int), .bool f.last, .slice A n c]
  have hs0 : (w.alloc (.cells #[.int .u8 (f.kind.toNat : Int), .int .u8 (f.frm.toNat : Int), .int .u8 (f.too.toNat : Int), .int .u32 (f.sess : Int), .int .u32 (f.seq : Int), .int .u8 (f.part.toNat : Int), .int .u32 (f.off : Int), .bool f.last, .slice A n c] 38)).heap.size = w.heap.size + 1 := World.size_alloc _ _
  have hr0 := hr.alloc (.cells #[.int .u8 (f.kind.toNat : Int), .int .u8 (f.frm.toNat : Int), .int .u8 (f.too.toNat : Int), .int .u32 (f.sess : Int), .int .u32 (f.seq : Int), .int .u8 (f.part.toNat : Int), .int .u32 (f.off : Int), .bool f.last, .slice A n c] 38)
  have hB0 : Below w.heap.size w (w.alloc (.cells #[.int .u8 (f.kind.toNat : Int), .int .u8 (f.frm.toNat : Int), .int .u8 (f.too.toNat : Int), .int .u32 (f.sess : Int), .int .u32 (f.seq : Int), .int .u8 (f.part.toNat : Int), .int .u32 (f.off : Int), .bool f.last, .slice A n c] 38)) := (Below.refl _ _).alloc (Nat.le_refl _) _
  generalize w.alloc (.cells #[.int .u8 (f.kind.toNat : Int), .int .u8 (f.frm.toNat : Int), .int .u8 (f.too.toNat : Int), .int .u32 (f.sess : Int), .int .u32 (f.seq : Int), .int .u8 (f.part.toNat : Int), .int .u32 (f.off : Int), .bool f.last, .slice A n c] 38) = W0 at hb0 hs0 hr0 hB0 ⊢
  refine (check_calls f A n c HN.out _).mono ?_
  rintro r W1 ⟨rfl, hb1⟩
  have hs1 := hb1.size
  have hf1 := hb0.below hb1 (by omega)
  have hr1 := hr0.below hb1
  have HB1 := Lib.hid (hB0.trans (hb1.mono (by omega)))
  rw [hs0] at hs1
  have HB1z := Lib.hid hs1
  clear hb1 hB0 hb0 hr0 hs0 hr
  go_wp2_with fail
  refine (new_calls _).mono ?_
  rintro r W2 ⟨rfl, hs2, hw2, hb2⟩
  have hf2 := hf1.below hb2 (by omega)
  have hr2 := hr1.below hb2
  have HB2 := Lib.hid (HB1.out.trans (hb2.mono (by omega)))
  clear hb2 hf1 hr1 HB1
  have hn3 := Blk.new W2 5 #[.int .u8 (f.kind.toNat : Int), .int .u8 (f.frm.toNat : Int), .int .u8 (f.too.toNat : Int)]
  have hs3 : (W2.alloc (.cells #[.int .u8 (f.kind.toNat : Int), .int .u8 (f.frm.toNat : Int), .int .u8 (f.too.toNat : Int)] 5)).heap.size = W1.heap.size + 2 := by rw [World.size_alloc, hs2]
  rw [hs2] at hn3
  have hb3 : Below W2.heap.size W2 (W2.alloc (.cells #[.int .u8 (f.kind.toNat : Int), .int .u8 (f.frm.toNat : Int), .int .u8 (f.too.toNat : Int)] 5)) := (Below.refl _ _).alloc (Nat.le_refl _) _
  have hf3 := hf2.alloc (.cells #[.int .u8 (f.kind.toNat : Int), .int .u8 (f.frm.toNat : Int), .int .u8 (f.too.toNat : Int)] 5)
  have hr3 := hr2.below hb3
  have hw3 := Wr.start (base := W1.heap.size + 2) (hw2.below hb3 (by omega)) (by omega) (by omega)
  have HB3 := Lib.hid (HB2.out.trans (hb3.mono (by have := HB1z.out; omega)))
  obtain ⟨k0, k1, k2, _⟩ := frCells hf2
  go_wp2_with fail
  clear k0 k1 k2
  generalize W2.alloc (.cells #[.int .u8 (f.kind.toNat : Int), .int .u8 (f.frm.toNat : Int), .int .u8 (f.too.toNat : Int)] 5) = W3 at hn3 hs3 hf3 hr3 hw3 HB3 hb3 ⊢
  clear hb3 hf2 hr2 hw2 HB2
  refine wp_loop_rounds 4 ?_
  rw [rounds_succ]
  have m0 := hn3.cell 0
  simp at m0
  go_wp2_with fail
  clear m0
  refine (byte_calls (W1.heap.size + 2) W1.heap.size ([]) f.kind _ (by simp) hw3).mono ?_
  rintro r W4 ⟨rfl, hw4, hx4⟩
  have hn4 := hx4.blk hn3 (by omega) (by omega)
  have hf4 := hx4.blk hf3 (by omega) (by omega)
  have hr4 := hx4.rd hr3 (fun b hb => by omega)
  have HB4 := Lib.hid (HB3.out.trans (hx4.below (by have := HB1z.out; omega) (by have := HB1z.out; omega)))
  clear hx4 hn3 hf3 hr3 HB3 hw3
  go_wp2_with fail
  rw [rounds_succ]
  have m1 := hn4.cell 1
  simp at m1
  go_wp2_with fail
  clear m1
  refine (byte_calls (W1.heap.size + 2) W1.heap.size ([] ++ [f.kind]) f.frm _ (by simp) hw4).mono ?_
  rintro r W5 ⟨rfl, hw5, hx5⟩
  have hn5 := hx5.blk hn4 (by omega) (by omega)
  have hf5 := hx5.blk hf4 (by omega) (by omega)
  have hr5 := hx5.rd hr4 (fun b hb => by omega)
  have HB5 := Lib.hid (HB4.out.trans (hx5.below (by have := HB1z.out; omega) (by have := HB1z.out; omega)))
  clear hx5 hn4 hf4 hr4 HB4 hw4
  go_wp2_with fail
  rw [rounds_succ]
  have m2 := hn5.cell 2
  simp at m2
  go_wp2_with fail
  clear m2
  refine (byte_calls (W1.heap.size + 2) W1.heap.size ([] ++ [f.kind] ++ [f.frm]) f.too _ (by simp) hw5).mono ?_
  rintro r W6 ⟨rfl, hw6, hx6⟩
  have hn6 := hx6.blk hn5 (by omega) (by omega)
  have hf6 := hx6.blk hf5 (by omega) (by omega)
  have hr6 := hx6.rd hr5 (fun b hb => by omega)
  have HB6 := Lib.hid (HB5.out.trans (hx6.below (by have := HB1z.out; omega) (by have := HB1z.out; omega)))
  clear hx6 hn5 hf5 hr5 HB5 hw5
  go_wp2_with fail
  rw [rounds_succ]
  clear hn6
  have z1 := szS_rng f.sess
  have z2 := szS_rng f.seq
  have z3 := szS_rng f.off
  have z4 := szS_rng f.data.length
  have Z1 := Lib.hid z1
  have Z2 := Lib.hid z2
  have Z3 := Lib.hid z3
  have Z4 := Lib.hid z4
  clear z1 z2 z3 z4
  obtain ⟨_, _, _, q3, _, _, _, _, _⟩ := frCells hf6
  go_wp2_with fail
  clear q3
  refine (num_calls (W1.heap.size + 2) W1.heap.size ([] ++ [f.kind] ++ [f.frm] ++ [f.too]) f.sess (by omega) _ (by have := Z1.out; have := Z2.out; have := Z3.out; have := Z4.out; simp only [List.length_append, List.length_cons, List.length_nil, varL_length]; omega) hw6).mono ?_
  rintro r W7 ⟨rfl, hw7, hx7⟩
  have hf7 := hx7.blk hf6 (by omega) (by omega)
  have hr7 := hx7.rd hr6 (fun b hb => by omega)
  have HB7 := Lib.hid (HB6.out.trans (hx7.below (by have := HB1z.out; omega) (by have := HB1z.out; omega)))
  clear hx7 hf6 hr6 HB6 hw6
  obtain ⟨_, _, _, _, q4, _, _, _, _⟩ := frCells hf7
  go_wp2_with fail
  clear q4
  refine (num_calls (W1.heap.size + 2) W1.heap.size ([] ++ [f.kind] ++ [f.frm] ++ [f.too] ++ varL f.sess) f.seq (by omega) _ (by have := Z1.out; have := Z2.out; have := Z3.out; have := Z4.out; simp only [List.length_append, List.length_cons, List.length_nil, varL_length]; omega) hw7).mono ?_
  rintro r W8 ⟨rfl, hw8, hx8⟩
  have hf8 := hx8.blk hf7 (by omega) (by omega)
  have hr8 := hx8.rd hr7 (fun b hb => by omega)
  have HB8 := Lib.hid (HB7.out.trans (hx8.below (by have := HB1z.out; omega) (by have := HB1z.out; omega)))
  clear hx8 hf7 hr7 HB7 hw7
  obtain ⟨_, _, _, _, _, q5, _, _, _⟩ := frCells hf8
  go_wp2_with fail
  clear q5
  refine (byte_calls (W1.heap.size + 2) W1.heap.size ([] ++ [f.kind] ++ [f.frm] ++ [f.too] ++ varL f.sess ++ varL f.seq) f.part _ (by have := Z1.out; have := Z2.out; have := Z3.out; have := Z4.out; simp only [List.length_append, List.length_cons, List.length_nil, varL_length]; omega) hw8).mono ?_
  rintro r W9 ⟨rfl, hw9, hx9⟩
  have hf9 := hx9.blk hf8 (by omega) (by omega)
  have hr9 := hx9.rd hr8 (fun b hb => by omega)
  have HB9 := Lib.hid (HB8.out.trans (hx9.below (by have := HB1z.out; omega) (by have := HB1z.out; omega)))
  clear hx9 hf8 hr8 HB8 hw8
  obtain ⟨_, _, _, _, _, _, q6, _, _⟩ := frCells hf9
  go_wp2_with fail
  clear q6
  refine (num_calls (W1.heap.size + 2) W1.heap.size ([] ++ [f.kind] ++ [f.frm] ++ [f.too] ++ varL f.sess ++ varL f.seq ++ [f.part]) f.off (by omega) _ (by have := Z1.out; have := Z2.out; have := Z3.out; have := Z4.out; simp only [List.length_append, List.length_cons, List.length_nil, varL_length]; omega) hw9).mono ?_
  rintro r W10 ⟨rfl, hw10, hx10⟩
  have hf10 := hx10.blk hf9 (by omega) (by omega)
  have hr10 := hx10.rd hr9 (fun b hb => by omega)
  have HB10 := Lib.hid (HB9.out.trans (hx10.below (by have := HB1z.out; omega) (by have := HB1z.out; omega)))
  clear hx10 hf9 hr9 HB9 hw9
  obtain ⟨_, _, _, _, _, _, _, q7, _⟩ := frCells hf10
  go_wp2_with fail
  clear q7
  refine (truth_calls f.last _).mono ?_
  rintro r Wt ⟨rfl, rfl⟩
  go_wp2_with fail
  refine (byte_calls (W1.heap.size + 2) W1.heap.size ([] ++ [f.kind] ++ [f.frm] ++ [f.too] ++ varL f.sess ++ varL f.seq ++ [f.part] ++ varL f.off) (bit8 f.last) _ (by have := Z1.out; have := Z2.out; have := Z3.out; have := Z4.out; simp only [List.length_append, List.length_cons, List.length_nil, varL_length]; omega) hw10).mono ?_
  rintro r W11 ⟨rfl, hw11, hx11⟩
  have hf11 := hx11.blk hf10 (by omega) (by omega)
  have hr11 := hx11.rd hr10 (fun b hb => by omega)
  have HB11 := Lib.hid (HB10.out.trans (hx11.below (by have := HB1z.out; omega) (by have := HB1z.out; omega)))
  clear hx11 hf10 hr10 HB10 hw10
  obtain ⟨_, _, _, _, _, _, _, _, q8⟩ := frCells hf11
  go_wp2_with fail
  clear q8
  refine (bytes_calls (W1.heap.size + 2) W1.heap.size ([] ++ [f.kind] ++ [f.frm] ++ [f.too] ++ varL f.sess ++ varL f.seq ++ [f.part] ++ varL f.off ++ [bit8 f.last]) f.data A n c (fun b => b < w.heap.size) _ HN.out (by have := Z1.out; have := Z2.out; have := Z3.out; have := HN.out; simp only [List.length_append, List.length_cons, List.length_nil, varL_length]; omega) hw11 hr11 (fun b hb => by omega)).mono ?_
  rintro r W12 ⟨rfl, hw12, hx12⟩
  have hf12 := hx12.blk hf11 (by omega) (by omega)
  have hr12 := hx12.rd hr11 (fun b hb => by omega)
  have HB12 := Lib.hid (HB11.out.trans (hx12.below (by have := HB1z.out; omega) (by have := HB1z.out; omega)))
  clear hx12 hf11 hr11 HB11 hw11
  have hwb : Wr W12 (W1.heap.size + 2) W1.heap.size (bodyS f) := by have h := hw12; rw [← HN.out] at h; exact h
  clear hw12 hf12 hr12
  have hL := bodyS_length f
  go_wp2_with fail
  refine (out_calls (W1.heap.size + 2) W1.heap.size (bodyS f) _ (by omega) hwb).mono ?_
  rintro r V1 ⟨A1, c1, rfl, hc1, hrd1, hy1⟩
  have HV1 := Lib.hid (HB12.out.trans (hy1.mono HB12.out.size))
  have hgt := HB12.out.size
  clear hy1 hwb
  go_wp2_with fail
  refine (seal_calls A1 (bodyS f) _ c1 _ _ rfl hc1 (by omega) hrd1).mono ?_
  rintro r V2 ⟨A2, c2, rfl, hc2, hrd2, hy2⟩
  have HV2 := Lib.hid (HV1.out.trans (hy2.mono HV1.out.size))
  have hgt2 := HV1.out.size
  clear hy2 hrd1
  have HLen : Hid ((bodyS f).length + 2 = (encS f).length) := by show _ = _; simp [encS, sealB]
  go_wp2
  go_ret2
  exact ⟨A2, c2, by rw [← HLen.out]; rfl, by rw [← HLen.out]; exact hc2, hrd2.weaken (fun b hb => by omega), HV2.out⟩
end Go.Proofs.Ytogdbccfkbbcaaa
