/- The walks of package key. -/
import Derived.Test.YtogdbccfkbbcaaaNameX
import Derived.DeepKeys
import Derived.Deep.Cut
namespace Go.Proofs.Ytogdbccfkbbcaaa
open Go.RowKit
set_option linter.unusedSimpArgs false
/-- A key. -/
structure Ky where
  sort : UInt8
  cart : Nat
  item : Nm
  rep : UInt8
  seq : Nat
def Z8 : Nm := ⟨0, 0, 0, 0, 0, 0, 0, 0⟩
theorem wf8 (x : UInt8) : (Lit.int .u8 (x.toNat : Int)).wf = true := by
  have := x.toNat_lt
  simp [Lit.wf, IntKind.min, IntKind.max, IntKind.signed, IntKind.bits]
  omega
theorem nm_lits (a : Nm) : ∃ la, Try.prog.keyLits 2 24 (Value.agg #[.int .u8 (a.b0.toNat : Int), .int .u8 (a.b1.toNat : Int), .int .u8 (a.b2.toNat : Int), .int .u8 (a.b3.toNat : Int), .int .u8 (a.b4.toNat : Int), .int .u8 (a.b5.toNat : Int), .int .u8 (a.b6.toNat : Int), .int .u8 (a.b7.toNat : Int)]).cells.toList = some la := by
  have c1 : Try.prog.cellsOf 5 = 1 := by kernel_rfl
  have c8 : Try.prog.cellsOf 24 = 8 := by kernel_rfl
  have e : ∀ x : UInt8, Try.prog.keyLits 1 5 [.int .u8 (x.toNat : Int)] = some [.int .u8 (x.toNat : Int)] := fun x => by
    simp only [Program.keyLits, Try.underlying5]
    simp [wf8 x]
  unfold Program.keyLits
  simp only [Try.underlying24, Value.cells, c8, c1]
  rw [if_pos (by rfl)]
  simp only [show List.range 8 = [0, 1, 2, 3, 4, 5, 6, 7] from rfl, List.mapM_cons, List.mapM_nil, List.drop_succ_cons, List.drop_zero, List.take_succ_cons, List.take_zero, Nat.mul_one, e, Option.pure_def, Option.bind_eq_bind, Option.bind_some, Option.map_some]
  exact ⟨_, rfl⟩
/-- Two names, compared: an answer, whichever. -/
theorem nm_eq (d : Nat) (a b : Nm) : ∃ r : Bool, ∀ W : World, (Op.equalIn (d + 2) 24 (.agg #[.int .u8 (a.b0.toNat : Int), .int .u8 (a.b1.toNat : Int), .int .u8 (a.b2.toNat : Int), .int .u8 (a.b3.toNat : Int), .int .u8 (a.b4.toNat : Int), .int .u8 (a.b5.toNat : Int), .int .u8 (a.b6.toNat : Int), .int .u8 (a.b7.toNat : Int)]) (.agg #[.int .u8 (b.b0.toNat : Int), .int .u8 (b.b1.toNat : Int), .int .u8 (b.b2.toNat : Int), .int .u8 (b.b3.toNat : Int), .int .u8 (b.b4.toNat : Int), .int .u8 (b.b5.toNat : Int), .int .u8 (b.b6.toNat : Int), .int .u8 (b.b7.toNat : Int)])).run Try.prog W = .ok r W := by
  have h := run_equalIn_deep (P := Try.prog) d 2 24 (by kernel_rfl)
  obtain ⟨la, h1⟩ := nm_lits a
  obtain ⟨lb, h2⟩ := nm_lits b
  classical
  refine ⟨decide (la = lb), fun W => ?_⟩
  obtain ⟨r, hr, hi⟩ := h W 2 2 (.agg #[.int .u8 (a.b0.toNat : Int), .int .u8 (a.b1.toNat : Int), .int .u8 (a.b2.toNat : Int), .int .u8 (a.b3.toNat : Int), .int .u8 (a.b4.toNat : Int), .int .u8 (a.b5.toNat : Int), .int .u8 (a.b6.toNat : Int), .int .u8 (a.b7.toNat : Int)]) (.agg #[.int .u8 (b.b0.toNat : Int), .int .u8 (b.b1.toNat : Int), .int .u8 (b.b2.toNat : Int), .int .u8 (b.b3.toNat : Int), .int .u8 (b.b4.toNat : Int), .int .u8 (b.b5.toNat : Int), .int .u8 (b.b6.toNat : Int), .int .u8 (b.b7.toNat : Int)]) la lb (by kernel_rfl) (by kernel_rfl) h1 h2
  rw [hr, show r = decide (la = lb) from by rw [Bool.eq_iff_iff, hi, decide_eq_true_eq]]
set_option maxRecDepth 100000 in
theorem some_calls (nm : Nm) (w : World) : Calls Try.prog 100 #[.agg #[.int .u8 (nm.b0.toNat : Int), .int .u8 (nm.b1.toNat : Int), .int .u8 (nm.b2.toNat : Int), .int .u8 (nm.b3.toNat : Int), .int .u8 (nm.b4.toNat : Int), .int .u8 (nm.b5.toNat : Int), .int .u8 (nm.b6.toNat : Int), .int .u8 (nm.b7.toNat : Int)]] w fun r w' => (∃ b, r = .returned (.bool b)) ∧ Below w.heap.size w w' := by
  have HB : Hid (Below w.heap.size w (w.alloc (.cells #[.int .u8 (nm.b0.toNat : Int), .int .u8 (nm.b1.toNat : Int), .int .u8 (nm.b2.toNat : Int), .int .u8 (nm.b3.toNat : Int), .int .u8 (nm.b4.toNat : Int), .int .u8 (nm.b5.toNat : Int), .int .u8 (nm.b6.toNat : Int), .int .u8 (nm.b7.toNat : Int)] 24))) := (Below.refl _ _).alloc (Nat.le_refl _) _
  obtain ⟨r, hr⟩ := nm_eq 9998 nm Z8
  have hr2 : ∀ W : World, (Op.equalIn 10000 24 (.agg #[.int .u8 (nm.b0.toNat : Int), .int .u8 (nm.b1.toNat : Int), .int .u8 (nm.b2.toNat : Int), .int .u8 (nm.b3.toNat : Int), .int .u8 (nm.b4.toNat : Int), .int .u8 (nm.b5.toNat : Int), .int .u8 (nm.b6.toNat : Int), .int .u8 (nm.b7.toNat : Int)]) (.agg #[.int .u8 0, .int .u8 0, .int .u8 0, .int .u8 0, .int .u8 0, .int .u8 0, .int .u8 0, .int .u8 0])).run Try.prog W = .ok r W := hr
  clear hr
  go_enter Try.func100, Try.ntmps100
  go_wp2
  go_ret
  exact ⟨by first | exact ⟨_, rfl⟩ | (cases r <;> first | exact .inl rfl | exact .inr rfl), HB.out⟩
set_option maxHeartbeats 2000000 in
set_option maxRecDepth 100000 in
theorem kright_calls (k : Ky) (w : World) : Calls Try.prog 82 #[.agg #[.int .u8 (k.sort.toNat : Int), .int .u16 (k.cart : Int), .int .u8 (k.item.b0.toNat : Int), .int .u8 (k.item.b1.toNat : Int), .int .u8 (k.item.b2.toNat : Int), .int .u8 (k.item.b3.toNat : Int), .int .u8 (k.item.b4.toNat : Int), .int .u8 (k.item.b5.toNat : Int), .int .u8 (k.item.b6.toNat : Int), .int .u8 (k.item.b7.toNat : Int), .int .u8 (k.rep.toNat : Int), .int .u32 (k.seq : Int)]] w fun r w' => (∃ b, r = .returned (.bool b) ∧ (b = true → 1 ≤ k.sort.toNat ∧ k.sort.toNat ≤ 4)) ∧ Below w.heap.size w w' := by
  obtain ⟨r, hr⟩ := nm_eq 9997 k.item Z8
  have hr2 : ∀ W : World, (Op.equalIn 9999 24 (.agg #[.int .u8 (k.item.b0.toNat : Int), .int .u8 (k.item.b1.toNat : Int), .int .u8 (k.item.b2.toNat : Int), .int .u8 (k.item.b3.toNat : Int), .int .u8 (k.item.b4.toNat : Int), .int .u8 (k.item.b5.toNat : Int), .int .u8 (k.item.b6.toNat : Int), .int .u8 (k.item.b7.toNat : Int)]) (.agg #[.int .u8 0, .int .u8 0, .int .u8 0, .int .u8 0, .int .u8 0, .int .u8 0, .int .u8 0, .int .u8 0])).run Try.prog W = .ok r W := hr
  clear hr
  by_cases h4 : k.sort.toNat = 4
  · have t4 : ((k.sort.toNat : Int) == 4) = true := by simp; omega
    have hs4 : Hid (1 ≤ k.sort.toNat ∧ k.sort.toNat ≤ 4) := by show _ ∧ _; omega
    generalize k.sort = so at *
    clear h4
    go_enter Try.func82, Try.ntmps82
    go_wp2
    all_goals go_ret
    all_goals exact ⟨⟨_, rfl, fun _ => hs4.out⟩, ((Below.refl _ _).alloc (Nat.le_refl _) _).alloc (by simp) _⟩
  have t4 : ((k.sort.toNat : Int) == 4) = false := by simp; omega
  by_cases h1 : k.sort.toNat = 1
  · have t1 : ((k.sort.toNat : Int) == 1) = true := by simp; omega
    have hs4 : Hid (1 ≤ k.sort.toNat ∧ k.sort.toNat ≤ 4) := by show _ ∧ _; omega
    clear h4 h1
    have hbk := (Blk.new w 27 #[.int .u8 (k.sort.toNat : Int), .int .u16 (k.cart : Int), .int .u8 (k.item.b0.toNat : Int), .int .u8 (k.item.b1.toNat : Int), .int .u8 (k.item.b2.toNat : Int), .int .u8 (k.item.b3.toNat : Int), .int .u8 (k.item.b4.toNat : Int), .int .u8 (k.item.b5.toNat : Int), .int .u8 (k.item.b6.toNat : Int), .int .u8 (k.item.b7.toNat : Int), .int .u8 (k.rep.toNat : Int), .int .u32 (k.seq : Int)]).alloc (.cells #[.int .u8 (k.sort.toNat : Int), .int .u16 (k.cart : Int), .int .u8 0, .int .u8 0, .int .u8 0, .int .u8 0, .int .u8 0, .int .u8 0, .int .u8 0, .int .u8 0, .int .u8 0, .int .u32 0] 27)
    have HB : Hid (Below w.heap.size w ((w.alloc (.cells #[.int .u8 (k.sort.toNat : Int), .int .u16 (k.cart : Int), .int .u8 (k.item.b0.toNat : Int), .int .u8 (k.item.b1.toNat : Int), .int .u8 (k.item.b2.toNat : Int), .int .u8 (k.item.b3.toNat : Int), .int .u8 (k.item.b4.toNat : Int), .int .u8 (k.item.b5.toNat : Int), .int .u8 (k.item.b6.toNat : Int), .int .u8 (k.item.b7.toNat : Int), .int .u8 (k.rep.toNat : Int), .int .u32 (k.seq : Int)] 27)).alloc (.cells #[.int .u8 (k.sort.toNat : Int), .int .u16 (k.cart : Int), .int .u8 0, .int .u8 0, .int .u8 0, .int .u8 0, .int .u8 0, .int .u8 0, .int .u8 0, .int .u8 0, .int .u8 0, .int .u32 0] 27))) := ((Below.refl _ _).alloc (Nat.le_refl _) _).alloc (by simp) _
    have hs0 : w.heap.size < ((w.alloc (.cells #[.int .u8 (k.sort.toNat : Int), .int .u16 (k.cart : Int), .int .u8 (k.item.b0.toNat : Int), .int .u8 (k.item.b1.toNat : Int), .int .u8 (k.item.b2.toNat : Int), .int .u8 (k.item.b3.toNat : Int), .int .u8 (k.item.b4.toNat : Int), .int .u8 (k.item.b5.toNat : Int), .int .u8 (k.item.b6.toNat : Int), .int .u8 (k.item.b7.toNat : Int), .int .u8 (k.rep.toNat : Int), .int .u32 (k.seq : Int)] 27)).alloc (.cells #[.int .u8 (k.sort.toNat : Int), .int .u16 (k.cart : Int), .int .u8 0, .int .u8 0, .int .u8 0, .int .u8 0, .int .u8 0, .int .u8 0, .int .u8 0, .int .u8 0, .int .u8 0, .int .u32 0] 27)).heap.size := by simp; omega
    go_enter Try.func82, Try.ntmps82
    go_upto_region 2 with (fail)
    generalize ((w.alloc (.cells #[.int .u8 (k.sort.toNat : Int), .int .u16 (k.cart : Int), .int .u8 (k.item.b0.toNat : Int), .int .u8 (k.item.b1.toNat : Int), .int .u8 (k.item.b2.toNat : Int), .int .u8 (k.item.b3.toNat : Int), .int .u8 (k.item.b4.toNat : Int), .int .u8 (k.item.b5.toNat : Int), .int .u8 (k.item.b6.toNat : Int), .int .u8 (k.item.b7.toNat : Int), .int .u8 (k.rep.toNat : Int), .int .u32 (k.seq : Int)] 27)).alloc (.cells #[.int .u8 (k.sort.toNat : Int), .int .u16 (k.cart : Int), .int .u8 0, .int .u8 0, .int .u8 0, .int .u8 0, .int .u8 0, .int .u8 0, .int .u8 0, .int .u8 0, .int .u8 0, .int .u32 0] 27)) = W at hbk HB hs0 ⊢
    have c0 := hbk.cell 0
    have c2 := hbk.cell 2
    have c3 := hbk.cell 3
    have c4 := hbk.cell 4
    have c5 := hbk.cell 5
    have c6 := hbk.cell 6
    have c7 := hbk.cell 7
    have c8 := hbk.cell 8
    have c9 := hbk.cell 9
    have c11 := hbk.cell 11
    simp at c0 c2 c3 c4 c5 c6 c7 c8 c9 c11
    by_cases hq : k.seq = 0
    · have tq : ((k.seq : Int) != 0) = false := by simp; omega
      clear hq
      go_wp2
      go_ret
      exact ⟨⟨_, rfl, fun h => by cases h⟩, HB.out⟩
    · have tq : ((k.seq : Int) != 0) = true := by simp; omega
      clear hq
      go_wp2_with fail
      clear c0 c2 c3 c4 c5 c6 c7 c8 c9 c11
      refine (nright_calls k.item W).mono ?_
      rintro r W1 ⟨⟨b, rfl⟩, hb⟩
      have c10 := (hbk.below hb hs0).cell 10
      simp at c10
      have HB1 := Lib.hid (HB.out.trans (hb.mono (by omega)))
      clear hb hbk HB
      cases b
      · go_wp2
        go_ret
        exact ⟨⟨_, rfl, fun h => by cases h⟩, HB1.out⟩
      · go_wp2
        go_ret
        exact ⟨⟨_, rfl, fun _ => hs4.out⟩, HB1.out⟩
  have t1 : ((k.sort.toNat : Int) == 1) = false := by simp; omega
  by_cases h23 : k.sort.toNat = 2 ∨ k.sort.toNat = 3
  · have T : ((k.sort.toNat : Int) == 2) = true ∨ (((k.sort.toNat : Int) == 2) = false ∧ ((k.sort.toNat : Int) == 3) = true) := by
      simp only [beq_iff_eq, beq_eq_false_iff_ne, ne_eq]; omega
    have hs4 : Hid (1 ≤ k.sort.toNat ∧ k.sort.toNat ≤ 4) := by show _ ∧ _; omega
    clear h4 h1 h23
    rcases T with T | ⟨T, T'⟩ <;>
    ·
      have hbk := (Blk.new w 27 #[.int .u8 (k.sort.toNat : Int), .int .u16 (k.cart : Int), .int .u8 (k.item.b0.toNat : Int), .int .u8 (k.item.b1.toNat : Int), .int .u8 (k.item.b2.toNat : Int), .int .u8 (k.item.b3.toNat : Int), .int .u8 (k.item.b4.toNat : Int), .int .u8 (k.item.b5.toNat : Int), .int .u8 (k.item.b6.toNat : Int), .int .u8 (k.item.b7.toNat : Int), .int .u8 (k.rep.toNat : Int), .int .u32 (k.seq : Int)]).alloc (.cells #[.int .u8 (k.sort.toNat : Int), .int .u16 (k.cart : Int), .int .u8 0, .int .u8 0, .int .u8 0, .int .u8 0, .int .u8 0, .int .u8 0, .int .u8 0, .int .u8 0, .int .u8 0, .int .u32 0] 27)
      have HB : Hid (Below w.heap.size w ((w.alloc (.cells #[.int .u8 (k.sort.toNat : Int), .int .u16 (k.cart : Int), .int .u8 (k.item.b0.toNat : Int), .int .u8 (k.item.b1.toNat : Int), .int .u8 (k.item.b2.toNat : Int), .int .u8 (k.item.b3.toNat : Int), .int .u8 (k.item.b4.toNat : Int), .int .u8 (k.item.b5.toNat : Int), .int .u8 (k.item.b6.toNat : Int), .int .u8 (k.item.b7.toNat : Int), .int .u8 (k.rep.toNat : Int), .int .u32 (k.seq : Int)] 27)).alloc (.cells #[.int .u8 (k.sort.toNat : Int), .int .u16 (k.cart : Int), .int .u8 0, .int .u8 0, .int .u8 0, .int .u8 0, .int .u8 0, .int .u8 0, .int .u8 0, .int .u8 0, .int .u8 0, .int .u32 0] 27))) := ((Below.refl _ _).alloc (Nat.le_refl _) _).alloc (by simp) _
      have hs0 : w.heap.size < ((w.alloc (.cells #[.int .u8 (k.sort.toNat : Int), .int .u16 (k.cart : Int), .int .u8 (k.item.b0.toNat : Int), .int .u8 (k.item.b1.toNat : Int), .int .u8 (k.item.b2.toNat : Int), .int .u8 (k.item.b3.toNat : Int), .int .u8 (k.item.b4.toNat : Int), .int .u8 (k.item.b5.toNat : Int), .int .u8 (k.item.b6.toNat : Int), .int .u8 (k.item.b7.toNat : Int), .int .u8 (k.rep.toNat : Int), .int .u32 (k.seq : Int)] 27)).alloc (.cells #[.int .u8 (k.sort.toNat : Int), .int .u16 (k.cart : Int), .int .u8 0, .int .u8 0, .int .u8 0, .int .u8 0, .int .u8 0, .int .u8 0, .int .u8 0, .int .u8 0, .int .u8 0, .int .u32 0] 27)).heap.size := by simp; omega
      go_enter Try.func82, Try.ntmps82
      go_upto_region 2 with (fail)
      generalize ((w.alloc (.cells #[.int .u8 (k.sort.toNat : Int), .int .u16 (k.cart : Int), .int .u8 (k.item.b0.toNat : Int), .int .u8 (k.item.b1.toNat : Int), .int .u8 (k.item.b2.toNat : Int), .int .u8 (k.item.b3.toNat : Int), .int .u8 (k.item.b4.toNat : Int), .int .u8 (k.item.b5.toNat : Int), .int .u8 (k.item.b6.toNat : Int), .int .u8 (k.item.b7.toNat : Int), .int .u8 (k.rep.toNat : Int), .int .u32 (k.seq : Int)] 27)).alloc (.cells #[.int .u8 (k.sort.toNat : Int), .int .u16 (k.cart : Int), .int .u8 0, .int .u8 0, .int .u8 0, .int .u8 0, .int .u8 0, .int .u8 0, .int .u8 0, .int .u8 0, .int .u8 0, .int .u32 0] 27)) = W at hbk HB hs0 ⊢
      have c0 := hbk.cell 0
      have c2 := hbk.cell 2
      have c3 := hbk.cell 3
      have c4 := hbk.cell 4
      have c5 := hbk.cell 5
      have c6 := hbk.cell 6
      have c7 := hbk.cell 7
      have c8 := hbk.cell 8
      have c9 := hbk.cell 9
      have c11 := hbk.cell 11
      simp at c0 c2 c3 c4 c5 c6 c7 c8 c9 c11
      by_cases hq : k.seq = 0
      · have tq : ((k.seq : Int) == 0) = true := by simp; omega
        clear hq
        go_wp2_with fail
        clear c0 c2 c3 c4 c5 c6 c7 c8 c9 c11
        refine (nright_calls k.item W).mono ?_
        rintro r W1 ⟨⟨b, rfl⟩, hb⟩
        have c10 := (hbk.below hb hs0).cell 10
        simp at c10
        have HB1 := Lib.hid (HB.out.trans (hb.mono (by omega)))
        clear hb hbk HB
        cases b
        · go_wp2
          go_ret
          exact ⟨⟨_, rfl, fun h => by cases h⟩, HB1.out⟩
        · go_wp2
          go_ret
          exact ⟨⟨_, rfl, fun _ => hs4.out⟩, HB1.out⟩
      · have tq : ((k.seq : Int) == 0) = false := by simp; omega
        clear hq
        go_wp2
        go_ret
        exact ⟨⟨_, rfl, fun h => by cases h⟩, HB.out⟩
  · have T2 : ((k.sort.toNat : Int) == 2) = false := by simp; omega
    have T3 : ((k.sort.toNat : Int) == 3) = false := by simp; omega
    clear h4 h1 h23
    have hbk := (Blk.new w 27 #[.int .u8 (k.sort.toNat : Int), .int .u16 (k.cart : Int), .int .u8 (k.item.b0.toNat : Int), .int .u8 (k.item.b1.toNat : Int), .int .u8 (k.item.b2.toNat : Int), .int .u8 (k.item.b3.toNat : Int), .int .u8 (k.item.b4.toNat : Int), .int .u8 (k.item.b5.toNat : Int), .int .u8 (k.item.b6.toNat : Int), .int .u8 (k.item.b7.toNat : Int), .int .u8 (k.rep.toNat : Int), .int .u32 (k.seq : Int)]).alloc (.cells #[.int .u8 (k.sort.toNat : Int), .int .u16 (k.cart : Int), .int .u8 0, .int .u8 0, .int .u8 0, .int .u8 0, .int .u8 0, .int .u8 0, .int .u8 0, .int .u8 0, .int .u8 0, .int .u32 0] 27)
    have HB : Hid (Below w.heap.size w ((w.alloc (.cells #[.int .u8 (k.sort.toNat : Int), .int .u16 (k.cart : Int), .int .u8 (k.item.b0.toNat : Int), .int .u8 (k.item.b1.toNat : Int), .int .u8 (k.item.b2.toNat : Int), .int .u8 (k.item.b3.toNat : Int), .int .u8 (k.item.b4.toNat : Int), .int .u8 (k.item.b5.toNat : Int), .int .u8 (k.item.b6.toNat : Int), .int .u8 (k.item.b7.toNat : Int), .int .u8 (k.rep.toNat : Int), .int .u32 (k.seq : Int)] 27)).alloc (.cells #[.int .u8 (k.sort.toNat : Int), .int .u16 (k.cart : Int), .int .u8 0, .int .u8 0, .int .u8 0, .int .u8 0, .int .u8 0, .int .u8 0, .int .u8 0, .int .u8 0, .int .u8 0, .int .u32 0] 27))) := ((Below.refl _ _).alloc (Nat.le_refl _) _).alloc (by simp) _
    have hs0 : w.heap.size < ((w.alloc (.cells #[.int .u8 (k.sort.toNat : Int), .int .u16 (k.cart : Int), .int .u8 (k.item.b0.toNat : Int), .int .u8 (k.item.b1.toNat : Int), .int .u8 (k.item.b2.toNat : Int), .int .u8 (k.item.b3.toNat : Int), .int .u8 (k.item.b4.toNat : Int), .int .u8 (k.item.b5.toNat : Int), .int .u8 (k.item.b6.toNat : Int), .int .u8 (k.item.b7.toNat : Int), .int .u8 (k.rep.toNat : Int), .int .u32 (k.seq : Int)] 27)).alloc (.cells #[.int .u8 (k.sort.toNat : Int), .int .u16 (k.cart : Int), .int .u8 0, .int .u8 0, .int .u8 0, .int .u8 0, .int .u8 0, .int .u8 0, .int .u8 0, .int .u8 0, .int .u8 0, .int .u32 0] 27)).heap.size := by simp; omega
    go_enter Try.func82, Try.ntmps82
    go_upto_region 2 with (fail)
    generalize ((w.alloc (.cells #[.int .u8 (k.sort.toNat : Int), .int .u16 (k.cart : Int), .int .u8 (k.item.b0.toNat : Int), .int .u8 (k.item.b1.toNat : Int), .int .u8 (k.item.b2.toNat : Int), .int .u8 (k.item.b3.toNat : Int), .int .u8 (k.item.b4.toNat : Int), .int .u8 (k.item.b5.toNat : Int), .int .u8 (k.item.b6.toNat : Int), .int .u8 (k.item.b7.toNat : Int), .int .u8 (k.rep.toNat : Int), .int .u32 (k.seq : Int)] 27)).alloc (.cells #[.int .u8 (k.sort.toNat : Int), .int .u16 (k.cart : Int), .int .u8 0, .int .u8 0, .int .u8 0, .int .u8 0, .int .u8 0, .int .u8 0, .int .u8 0, .int .u8 0, .int .u8 0, .int .u32 0] 27)) = W at hbk HB hs0 ⊢
    have c0 := hbk.cell 0
    have c2 := hbk.cell 2
    have c3 := hbk.cell 3
    have c4 := hbk.cell 4
    have c5 := hbk.cell 5
    have c6 := hbk.cell 6
    have c7 := hbk.cell 7
    have c8 := hbk.cell 8
    have c9 := hbk.cell 9
    have c11 := hbk.cell 11
    simp at c0 c2 c3 c4 c5 c6 c7 c8 c9 c11
    go_wp2
    go_ret
    exact ⟨⟨_, rfl, fun h => by cases h⟩, HB.out⟩
end Go.Proofs.Ytogdbccfkbbcaaa
