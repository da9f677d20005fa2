/- An atom that came in. -/
import Derived.Test.YtogdbccfkbbcaaaArgsW
import Derived.Test.YtogdbccfkbbcaaaAtomX
namespace Go.Proofs.Ytogdbccfkbbcaaa
open Go.Joins Go.ChangeShapes Go.WideShapes Go.RowKit Go.Deep
set_option linter.unusedVariables false
section
variable {H : Type} {enc : TypeId × Value → H} {w : World} {base : Nat} {spare : Nat → Bool} {held : Bool}
theorem u16_of {z : Int} (h : (Lit.int .u16 z).wf = true) : ∃ m : Nat, z = (m : Int) ∧ m < 65536 := by
  have hz : 0 ≤ z ∧ z ≤ 65535 := by simpa [Lit.wf, IntKind.min, IntKind.max, IntKind.signed, IntKind.bits] using h
  exact ⟨z.toNat, by omega, by omega⟩
theorem u64_of {z : Int} (h : (Lit.int .u64 z).wf = true) : ∃ m : Nat, z = (m : Int) ∧ m < 18446744073709551616 := by
  have hz : 0 ≤ z ∧ z ≤ 18446744073709551615 := by simpa [Lit.wf, IntKind.min, IntKind.max, IntKind.signed, IntKind.bits] using h
  exact ⟨z.toNat, by omega, by omega⟩
theorem cells_u8 : Try.prog.cellsOf 5 = 1 := by kernel_rfl
theorem cells_u16 : Try.prog.cellsOf 22 = 1 := by kernel_rfl
theorem cells_u32 : Try.prog.cellsOf 25 = 1 := by kernel_rfl
theorem cells_u64 : Try.prog.cellsOf 28 = 1 := by kernel_rfl
theorem cells_nm : Try.prog.cellsOf 24 = 8 := by kernel_rfl
theorem cells_ky : Try.prog.cellsOf 27 = 12 := by kernel_rfl
theorem cells_vl : Try.prog.cellsOf 30 = 9 := by kernel_rfl
set_option maxRecDepth 100000 in
theorem open_nm {fuel : Nat} {c0 c1 c2 c3 c4 c5 c6 c7 : Value} {x : DataW H × List MemPlace} (h : DataW.trod enc Try.prog w base spare held fuel 24 [c0, c1, c2, c3, c4, c5, c6, c7] = some x) :
    ∃ m : Nm, c0 = .int .u8 (m.b0.toNat : Int) ∧ c1 = .int .u8 (m.b1.toNat : Int) ∧ c2 = .int .u8 (m.b2.toNat : Int) ∧ c3 = .int .u8 (m.b3.toNat : Int) ∧ c4 = .int .u8 (m.b4.toNat : Int) ∧ c5 = .int .u8 (m.b5.toNat : Int) ∧ c6 = .int .u8 (m.b6.toNat : Int) ∧ c7 = .int .u8 (m.b7.toNat : Int) := by
  obtain ⟨xs, n, _, _, _, hlen, hg⟩ := DataW.trod_array Try.underlying24 h
  match xs, hlen with
  | [y0, y1, y2, y3, y4, y5, y6, y7], _ =>
    have g0 : DataW.trod enc Try.prog w base spare held n 5 [c0] = some y0 := by have := hg 0 (by decide); simpa [cells_u8] using this
    obtain ⟨z0, e0, _, q0⟩ := DataW.trod_int (k := .u8) (by kernel_rfl) g0
    obtain ⟨x0, rfl⟩ := byte_of q0
    have g1 : DataW.trod enc Try.prog w base spare held n 5 [c1] = some y1 := by have := hg 1 (by decide); simpa [cells_u8] using this
    obtain ⟨z1, e1, _, q1⟩ := DataW.trod_int (k := .u8) (by kernel_rfl) g1
    obtain ⟨x1, rfl⟩ := byte_of q1
    have g2 : DataW.trod enc Try.prog w base spare held n 5 [c2] = some y2 := by have := hg 2 (by decide); simpa [cells_u8] using this
    obtain ⟨z2, e2, _, q2⟩ := DataW.trod_int (k := .u8) (by kernel_rfl) g2
    obtain ⟨x2, rfl⟩ := byte_of q2
    have g3 : DataW.trod enc Try.prog w base spare held n 5 [c3] = some y3 := by have := hg 3 (by decide); simpa [cells_u8] using this
    obtain ⟨z3, e3, _, q3⟩ := DataW.trod_int (k := .u8) (by kernel_rfl) g3
    obtain ⟨x3, rfl⟩ := byte_of q3
    have g4 : DataW.trod enc Try.prog w base spare held n 5 [c4] = some y4 := by have := hg 4 (by decide); simpa [cells_u8] using this
    obtain ⟨z4, e4, _, q4⟩ := DataW.trod_int (k := .u8) (by kernel_rfl) g4
    obtain ⟨x4, rfl⟩ := byte_of q4
    have g5 : DataW.trod enc Try.prog w base spare held n 5 [c5] = some y5 := by have := hg 5 (by decide); simpa [cells_u8] using this
    obtain ⟨z5, e5, _, q5⟩ := DataW.trod_int (k := .u8) (by kernel_rfl) g5
    obtain ⟨x5, rfl⟩ := byte_of q5
    have g6 : DataW.trod enc Try.prog w base spare held n 5 [c6] = some y6 := by have := hg 6 (by decide); simpa [cells_u8] using this
    obtain ⟨z6, e6, _, q6⟩ := DataW.trod_int (k := .u8) (by kernel_rfl) g6
    obtain ⟨x6, rfl⟩ := byte_of q6
    have g7 : DataW.trod enc Try.prog w base spare held n 5 [c7] = some y7 := by have := hg 7 (by decide); simpa [cells_u8] using this
    obtain ⟨z7, e7, _, q7⟩ := DataW.trod_int (k := .u8) (by kernel_rfl) g7
    obtain ⟨x7, rfl⟩ := byte_of q7
    exact ⟨⟨x0, x1, x2, x3, x4, x5, x6, x7⟩, by simpa using e0, by simpa using e1, by simpa using e2, by simpa using e3, by simpa using e4, by simpa using e5, by simpa using e6, by simpa using e7⟩
set_option maxRecDepth 100000 in
theorem open_ky {fuel : Nat} {c0 c1 c2 c3 c4 c5 c6 c7 c8 c9 c10 c11 : Value} {x : DataW H × List MemPlace} (h : DataW.trod enc Try.prog w base spare held fuel 27 [c0, c1, c2, c3, c4, c5, c6, c7, c8, c9, c10, c11] = some x) :
    ∃ k : Ky, k.cart < 65536 ∧ k.seq < 4294967296 ∧ c0 = .int .u8 (k.sort.toNat : Int) ∧ c1 = .int .u16 (k.cart : Int) ∧ c2 = .int .u8 (k.item.b0.toNat : Int) ∧ c3 = .int .u8 (k.item.b1.toNat : Int) ∧ c4 = .int .u8 (k.item.b2.toNat : Int) ∧ c5 = .int .u8 (k.item.b3.toNat : Int) ∧ c6 = .int .u8 (k.item.b4.toNat : Int) ∧ c7 = .int .u8 (k.item.b5.toNat : Int) ∧ c8 = .int .u8 (k.item.b6.toNat : Int) ∧ c9 = .int .u8 (k.item.b7.toNat : Int) ∧ c10 = .int .u8 (k.rep.toNat : Int) ∧ c11 = .int .u32 (k.seq : Int) := by
  obtain ⟨xs, n, _, _, _, hlen, hg⟩ := DataW.trod_struct Try.underlying27 h
  match xs, hlen with
  | [y0, y1, y2, y3, y4], _ =>
    have g0 : DataW.trod enc Try.prog w base spare held n 5 [c0] = some y0 := by have := hg 0 _ rfl; simpa [cells_u8] using this
    have g1 : DataW.trod enc Try.prog w base spare held n 22 [c1] = some y1 := by have := hg 1 _ rfl; simpa [cells_u16] using this
    have g2 : DataW.trod enc Try.prog w base spare held n 24 [c2, c3, c4, c5, c6, c7, c8, c9] = some y2 := by have := hg 2 _ rfl; simpa [cells_nm] using this
    have g3 : DataW.trod enc Try.prog w base spare held n 5 [c10] = some y3 := by have := hg 3 _ rfl; simpa [cells_u8] using this
    have g4 : DataW.trod enc Try.prog w base spare held n 25 [c11] = some y4 := by have := hg 4 _ rfl; simpa [cells_u32] using this
    obtain ⟨z0, e0, _, q0⟩ := DataW.trod_int (k := .u8) (by kernel_rfl) g0
    obtain ⟨x0, rfl⟩ := byte_of q0
    obtain ⟨z1, e1, _, q1⟩ := DataW.trod_int (k := .u16) (by kernel_rfl) g1
    obtain ⟨x1, rfl, s1⟩ := u16_of q1
    obtain ⟨m, m0, m1, m2, m3, m4, m5, m6, m7⟩ := open_nm g2
    obtain ⟨z3, e3, _, q3⟩ := DataW.trod_int (k := .u8) (by kernel_rfl) g3
    obtain ⟨x3, rfl⟩ := byte_of q3
    obtain ⟨z4, e4, _, q4⟩ := DataW.trod_int (k := .u32) (by kernel_rfl) g4
    obtain ⟨x4, rfl, s4⟩ := u32_of q4
    exact ⟨⟨x0, x1, m, x3, x4⟩, s1, s4, by simpa using e0, by simpa using e1, m0, m1, m2, m3, m4, m5, m6, m7, by simpa using e3, by simpa using e4⟩
set_option maxRecDepth 100000 in
theorem open_vl {fuel : Nat} {c0 c1 c2 c3 c4 c5 c6 c7 c8 : Value} {x : DataW H × List MemPlace} (h : DataW.trod enc Try.prog w base spare held fuel 30 [c0, c1, c2, c3, c4, c5, c6, c7, c8] = some x) :
    ∃ v : Vl, v.n < 18446744073709551616 ∧ c0 = .int .u64 (v.n : Int) ∧ c1 = .int .u8 (v.text.b0.toNat : Int) ∧ c2 = .int .u8 (v.text.b1.toNat : Int) ∧ c3 = .int .u8 (v.text.b2.toNat : Int) ∧ c4 = .int .u8 (v.text.b3.toNat : Int) ∧ c5 = .int .u8 (v.text.b4.toNat : Int) ∧ c6 = .int .u8 (v.text.b5.toNat : Int) ∧ c7 = .int .u8 (v.text.b6.toNat : Int) ∧ c8 = .int .u8 (v.text.b7.toNat : Int) := by
  obtain ⟨xs, n, _, _, _, hlen, hg⟩ := DataW.trod_struct Try.underlying30 h
  match xs, hlen with
  | [y0, y1], _ =>
    have g0 : DataW.trod enc Try.prog w base spare held n 28 [c0] = some y0 := by have := hg 0 _ rfl; simpa [cells_u64] using this
    have g1 : DataW.trod enc Try.prog w base spare held n 24 [c1, c2, c3, c4, c5, c6, c7, c8] = some y1 := by have := hg 1 _ rfl; simpa [cells_nm] using this
    obtain ⟨z0, e0, _, q0⟩ := DataW.trod_int (k := .u64) (by kernel_rfl) g0
    obtain ⟨x0, rfl, s0⟩ := u64_of q0
    obtain ⟨m, m0, m1, m2, m3, m4, m5, m6, m7⟩ := open_nm g1
    exact ⟨⟨x0, m⟩, s0, by simpa using e0, m0, m1, m2, m3, m4, m5, m6, m7⟩
set_option maxRecDepth 100000 in
/-- An atom that came in. -/
theorem open_atom {r : Reach} {b0 : Nat} {v : Value} {d : DataW H} {p : List MemPlace} (hv : Value.okWide Try.prog w r b0 32 v) (h : DataW.Trod enc Try.prog w base spare held 32 v d p) :
    ∃ a : At, v = .agg #[.int .u8 (a.k.sort.toNat : Int), .int .u16 (a.k.cart : Int), .int .u8 (a.k.item.b0.toNat : Int), .int .u8 (a.k.item.b1.toNat : Int), .int .u8 (a.k.item.b2.toNat : Int), .int .u8 (a.k.item.b3.toNat : Int), .int .u8 (a.k.item.b4.toNat : Int), .int .u8 (a.k.item.b5.toNat : Int), .int .u8 (a.k.item.b6.toNat : Int), .int .u8 (a.k.item.b7.toNat : Int), .int .u8 (a.k.rep.toNat : Int), .int .u32 (a.k.seq : Int), .int .u64 (a.v.n : Int), .int .u8 (a.v.text.b0.toNat : Int), .int .u8 (a.v.text.b1.toNat : Int), .int .u8 (a.v.text.b2.toNat : Int), .int .u8 (a.v.text.b3.toNat : Int), .int .u8 (a.v.text.b4.toNat : Int), .int .u8 (a.v.text.b5.toNat : Int), .int .u8 (a.v.text.b6.toNat : Int), .int .u8 (a.v.text.b7.toNat : Int)] ∧ AtSmall a := by
  obtain ⟨cs, rfl, hsz⟩ := okWide_struct Try.underlying32 hv
  obtain ⟨l⟩ := cs
  match l, hsz.trans (show Try.prog.cellsOf 32 = 21 by kernel_rfl) with
  | [c0, c1, c2, c3, c4, c5, c6, c7, c8, c9, c10, c11, c12, c13, c14, c15, c16, c17, c18, c19, c20], _ =>
    obtain ⟨fuel, hf⟩ := h
    obtain ⟨xs, n, _, _, _, hlen, hg⟩ := DataW.trod_struct Try.underlying32 hf
    match xs, hlen with
    | [y0, y1], _ =>
      have g0 : DataW.trod enc Try.prog w base spare held n 27 [c0, c1, c2, c3, c4, c5, c6, c7, c8, c9, c10, c11] = some y0 := by have := hg 0 _ rfl; simpa [cells_ky, Value.cells] using this
      have g1 : DataW.trod enc Try.prog w base spare held n 30 [c12, c13, c14, c15, c16, c17, c18, c19, c20] = some y1 := by have := hg 1 _ rfl; simpa [cells_vl, Value.cells] using this
      obtain ⟨k, s1, s2, rfl, rfl, rfl, rfl, rfl, rfl, rfl, rfl, rfl, rfl, rfl, rfl⟩ := open_ky g0
      obtain ⟨u, s3, rfl, rfl, rfl, rfl, rfl, rfl, rfl, rfl, rfl⟩ := open_vl g1
      exact ⟨⟨k, u⟩, rfl, ⟨s1, s2, s3⟩⟩
end
end Go.Proofs.Ytogdbccfkbbcaaa
