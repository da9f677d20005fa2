/- The walks of package atom: what is right. -/
import Derived.Test.YtogdbccfkbbcaaaKeyX
import Derived.Deep.RegionHeld3
namespace Go.Proofs.Ytogdbccfkbbcaaa
open Go.RowKit
set_option linter.unusedSimpArgs false
/-- A value of an atom. -/
structure Vl where
  n : Nat
  text : Nm
theorem unstamp_calls (x : Nat) (w : World) : Calls Try.prog 119 #[.int .u64 (x : Int)] w fun r w' => (∃ a b : Int, r = .returned (.tuple #[.int .u32 a, .int .u8 b])) ∧ w = w' := by
  go_enter Try.func119, Try.ntmps119
  go_wp2
  go_ret2
  exact ⟨⟨_, _, rfl⟩, rfl⟩
theorem stamped_calls (x : Nat) (w : World) : Calls Try.prog 105 #[.int .u64 (x : Int)] w fun r w' => (∃ e : Int, r = .returned (.int .i64 e) ∧ (e = 0 → x < 1099511627776)) ∧ w = w' := by
  by_cases hx : x < 1099511627776
  · have d1 : decide ((x : Int) > 1099511627775) = false := by simp; omega
    have HX := Lib.hid hx
    clear hx
    go_enter Try.func105, Try.ntmps105
    go_wp2_with fail
    refine (unstamp_calls x _).mono ?_
    rintro r w1 ⟨⟨a, b, rfl⟩, rfl⟩
    cases h : decide (b ≥ 16) <;> cases h2 : (a == 0)
    all_goals go_wp2
    all_goals go_ret
    all_goals exact ⟨⟨_, rfl, fun _ => HX.out⟩, rfl⟩
  · have d1 : decide ((x : Int) > 1099511627775) = true := by simp; omega
    go_enter Try.func105, Try.ntmps105
    go_wp2_with fail
    refine (unstamp_calls x _).mono ?_
    rintro r w1 ⟨⟨a, b, rfl⟩, rfl⟩
    clear hx
    cases h : decide (b ≥ 16)
    all_goals go_wp2
    all_goals go_ret
    all_goals exact ⟨⟨_, rfl, fun h => by cases h⟩, rfl⟩
theorem vlCells {w : World} {g : Nat} {t : TypeId} {v : Vl} (h : Blk w g t #[.int .u64 (v.n : Int), .int .u8 (v.text.b0.toNat : Int), .int .u8 (v.text.b1.toNat : Int), .int .u8 (v.text.b2.toNat : Int), .int .u8 (v.text.b3.toNat : Int), .int .u8 (v.text.b4.toNat : Int), .int .u8 (v.text.b5.toNat : Int), .int .u8 (v.text.b6.toNat : Int), .int .u8 (v.text.b7.toNat : Int)]) : w.cell? ⟨g, 0, none⟩ = some (.int .u64 (v.n : Int)) ∧ w.cell? ⟨g, 1, none⟩ = some (.int .u8 (v.text.b0.toNat : Int)) ∧ w.cell? ⟨g, 2, none⟩ = some (.int .u8 (v.text.b1.toNat : Int)) ∧ w.cell? ⟨g, 3, none⟩ = some (.int .u8 (v.text.b2.toNat : Int)) ∧ w.cell? ⟨g, 4, none⟩ = some (.int .u8 (v.text.b3.toNat : Int)) ∧ w.cell? ⟨g, 5, none⟩ = some (.int .u8 (v.text.b4.toNat : Int)) ∧ w.cell? ⟨g, 6, none⟩ = some (.int .u8 (v.text.b5.toNat : Int)) ∧ w.cell? ⟨g, 7, none⟩ = some (.int .u8 (v.text.b6.toNat : Int)) ∧ w.cell? ⟨g, 8, none⟩ = some (.int .u8 (v.text.b7.toNat : Int)) :=
  ⟨h.cell 0, h.cell 1, h.cell 2, h.cell 3, h.cell 4, h.cell 5, h.cell 6, h.cell 7, h.cell 8⟩
theorem bare_calls (v : Vl) (w : World) : Calls Try.prog 99 #[.agg #[.int .u64 (v.n : Int), .int .u8 (v.text.b0.toNat : Int), .int .u8 (v.text.b1.toNat : Int), .int .u8 (v.text.b2.toNat : Int), .int .u8 (v.text.b3.toNat : Int), .int .u8 (v.text.b4.toNat : Int), .int .u8 (v.text.b5.toNat : Int), .int .u8 (v.text.b6.toNat : Int), .int .u8 (v.text.b7.toNat : Int)]] w fun r w' => (∃ b, r = .returned (.bool b)) ∧ Below w.heap.size w w' := by
  have hs0 : w.heap.size ≤ (w.alloc (.cells #[.int .u64 (v.n : Int), .int .u8 (v.text.b0.toNat : Int), .int .u8 (v.text.b1.toNat : Int), .int .u8 (v.text.b2.toNat : Int), .int .u8 (v.text.b3.toNat : Int), .int .u8 (v.text.b4.toNat : Int), .int .u8 (v.text.b5.toNat : Int), .int .u8 (v.text.b6.toNat : Int), .int .u8 (v.text.b7.toNat : Int)] 30)).heap.size := by simp
  have HB : Hid (Below w.heap.size w (w.alloc (.cells #[.int .u64 (v.n : Int), .int .u8 (v.text.b0.toNat : Int), .int .u8 (v.text.b1.toNat : Int), .int .u8 (v.text.b2.toNat : Int), .int .u8 (v.text.b3.toNat : Int), .int .u8 (v.text.b4.toNat : Int), .int .u8 (v.text.b5.toNat : Int), .int .u8 (v.text.b6.toNat : Int), .int .u8 (v.text.b7.toNat : Int)] 30))) := (Below.refl _ _).alloc (Nat.le_refl _) _
  go_enter Try.func99, Try.ntmps99
  go_wp2_with fail
  refine (some_calls v.text _).mono ?_
  rintro r w1 ⟨⟨b, rfl⟩, hb⟩
  have HB1 := Lib.hid (HB.out.trans (hb.mono hs0))
  clear hb
  go_wp2
  go_ret
  exact ⟨by first | exact ⟨_, rfl⟩ | (cases b <;> first | exact .inl rfl | exact .inr rfl), HB1.out⟩
theorem none_calls (v : Vl) (w : World) : Calls Try.prog 102 #[.agg #[.int .u64 (v.n : Int), .int .u8 (v.text.b0.toNat : Int), .int .u8 (v.text.b1.toNat : Int), .int .u8 (v.text.b2.toNat : Int), .int .u8 (v.text.b3.toNat : Int), .int .u8 (v.text.b4.toNat : Int), .int .u8 (v.text.b5.toNat : Int), .int .u8 (v.text.b6.toNat : Int), .int .u8 (v.text.b7.toNat : Int)]] w fun r w' => r = .returned (.bool false) ∧ Below w.heap.size w w' := by
  go_enter Try.func102, Try.ntmps102
  go_wp2
  go_ret
  exact ⟨rfl, (Below.refl _ _).alloc (Nat.le_refl _) _⟩
theorem half_calls (v : Vl) (g : Nat) (w : World) (hg : w.cell? ⟨g, 0, none⟩ = some (.func (.func 99) #[] #[])) :
    Calls Try.prog 101 #[.agg #[.int .u64 (v.n : Int), .int .u8 (v.text.b0.toNat : Int), .int .u8 (v.text.b1.toNat : Int), .int .u8 (v.text.b2.toNat : Int), .int .u8 (v.text.b3.toNat : Int), .int .u8 (v.text.b4.toNat : Int), .int .u8 (v.text.b5.toNat : Int), .int .u8 (v.text.b6.toNat : Int), .int .u8 (v.text.b7.toNat : Int)], .pointer (some ⟨g, 0, none⟩)] w fun r w' => (∃ b, r = .returned (.bool b) ∧ (b = true → v.n < 4294967296)) ∧ Below w.heap.size w w' := by
  have hb0 := Blk.new w 30 #[.int .u64 (v.n : Int), .int .u8 (v.text.b0.toNat : Int), .int .u8 (v.text.b1.toNat : Int), .int .u8 (v.text.b2.toNat : Int), .int .u8 (v.text.b3.toNat : Int), .int .u8 (v.text.b4.toNat : Int), .int .u8 (v.text.b5.toNat : Int), .int .u8 (v.text.b6.toNat : Int), .int .u8 (v.text.b7.toNat : Int)]
  have hs0 : w.heap.size < (w.alloc (.cells #[.int .u64 (v.n : Int), .int .u8 (v.text.b0.toNat : Int), .int .u8 (v.text.b1.toNat : Int), .int .u8 (v.text.b2.toNat : Int), .int .u8 (v.text.b3.toNat : Int), .int .u8 (v.text.b4.toNat : Int), .int .u8 (v.text.b5.toNat : Int), .int .u8 (v.text.b6.toNat : Int), .int .u8 (v.text.b7.toNat : Int)] 30)).heap.size := by simp
  have HB : Hid (Below w.heap.size w (w.alloc (.cells #[.int .u64 (v.n : Int), .int .u8 (v.text.b0.toNat : Int), .int .u8 (v.text.b1.toNat : Int), .int .u8 (v.text.b2.toNat : Int), .int .u8 (v.text.b3.toNat : Int), .int .u8 (v.text.b4.toNat : Int), .int .u8 (v.text.b5.toNat : Int), .int .u8 (v.text.b6.toNat : Int), .int .u8 (v.text.b7.toNat : Int)] 30))) := (Below.refl _ _).alloc (Nat.le_refl _) _
  obtain ⟨x0, x1, x2, x3, x4, x5, x6, x7, x8⟩ := vlCells hb0
  have hg2 : (w.alloc (.cells #[.int .u64 (v.n : Int), .int .u8 (v.text.b0.toNat : Int), .int .u8 (v.text.b1.toNat : Int), .int .u8 (v.text.b2.toNat : Int), .int .u8 (v.text.b3.toNat : Int), .int .u8 (v.text.b4.toNat : Int), .int .u8 (v.text.b5.toNat : Int), .int .u8 (v.text.b6.toNat : Int), .int .u8 (v.text.b7.toNat : Int)] 30)).cell? ⟨g, 0, none⟩ = some (.func (.func 99) #[] #[]) := by rw [World.cell?_alloc_lt _ _ _ (World.block_lt_of_cell? _ _ hg)]; exact hg
  clear hg
  have hlt : Hid (v.n ≤ 4294967295 → v.n < 4294967296) := fun h => by omega
  go_enter Try.func101, Try.ntmps101
  go_wp2_with fail
  generalize w.alloc (.cells #[.int .u64 (v.n : Int), .int .u8 (v.text.b0.toNat : Int), .int .u8 (v.text.b1.toNat : Int), .int .u8 (v.text.b2.toNat : Int), .int .u8 (v.text.b3.toNat : Int), .int .u8 (v.text.b4.toNat : Int), .int .u8 (v.text.b5.toNat : Int), .int .u8 (v.text.b6.toNat : Int), .int .u8 (v.text.b7.toNat : Int)] 30) = W at hb0 hs0 HB x0 x1 x2 x3 x4 x5 x6 x7 x8 hg2 ⊢
  clear x0 x1 x2 x3 x4 x5 x6 x7 x8 hg2
  refine (bare_calls v W).mono ?_
  rintro r w1 ⟨⟨b, rfl⟩, hb⟩
  have HB1 := Lib.hid (HB.out.trans (hb.mono (by omega)))
  have hb1 := hb0.below hb hs0
  obtain ⟨y0, _, _, _, _, _, _, _, _⟩ := vlCells hb1
  clear hb hb0 hb1 HB
  cases b
  · go_wp2
    go_ret
    exact ⟨⟨_, rfl, fun h => by cases h⟩, HB1.out⟩
  · by_cases h1 : v.n ≥ 1
    · have t1 : decide ((v.n : Int) ≥ 1) = true := by simp; omega
      by_cases h2 : v.n ≤ 4294967295
      · have t2 : decide ((v.n : Int) ≤ 4294967295) = true := by simp; omega
        have HH := Lib.hid (hlt.out h2)
        clear h1 h2 hlt
        go_wp2
        go_ret
        exact ⟨⟨_, rfl, fun _ => HH.out⟩, HB1.out⟩
      · have t2 : decide ((v.n : Int) ≤ 4294967295) = false := by simp; omega
        clear h1 h2 hlt
        go_wp2
        go_ret
        exact ⟨⟨_, rfl, fun h => by cases h⟩, HB1.out⟩
    · have t1 : decide ((v.n : Int) ≥ 1) = false := by simp; omega
      clear h1 hlt
      go_wp2
      go_ret
      exact ⟨⟨_, rfl, fun h => by cases h⟩, HB1.out⟩
theorem tag_calls (v : Vl) (g : Nat) (w : World) (hg : w.cell? ⟨g, 0, none⟩ = some (.func (.func 99) #[] #[])) :
    Calls Try.prog 103 #[.agg #[.int .u64 (v.n : Int), .int .u8 (v.text.b0.toNat : Int), .int .u8 (v.text.b1.toNat : Int), .int .u8 (v.text.b2.toNat : Int), .int .u8 (v.text.b3.toNat : Int), .int .u8 (v.text.b4.toNat : Int), .int .u8 (v.text.b5.toNat : Int), .int .u8 (v.text.b6.toNat : Int), .int .u8 (v.text.b7.toNat : Int)], .pointer (some ⟨g, 0, none⟩)] w fun r w' => (∃ b, r = .returned (.bool b)) ∧ Below w.heap.size w w' := by
  have hb0 := Blk.new w 30 #[.int .u64 (v.n : Int), .int .u8 (v.text.b0.toNat : Int), .int .u8 (v.text.b1.toNat : Int), .int .u8 (v.text.b2.toNat : Int), .int .u8 (v.text.b3.toNat : Int), .int .u8 (v.text.b4.toNat : Int), .int .u8 (v.text.b5.toNat : Int), .int .u8 (v.text.b6.toNat : Int), .int .u8 (v.text.b7.toNat : Int)]
  have hs0 : w.heap.size < (w.alloc (.cells #[.int .u64 (v.n : Int), .int .u8 (v.text.b0.toNat : Int), .int .u8 (v.text.b1.toNat : Int), .int .u8 (v.text.b2.toNat : Int), .int .u8 (v.text.b3.toNat : Int), .int .u8 (v.text.b4.toNat : Int), .int .u8 (v.text.b5.toNat : Int), .int .u8 (v.text.b6.toNat : Int), .int .u8 (v.text.b7.toNat : Int)] 30)).heap.size := by simp
  have HB : Hid (Below w.heap.size w (w.alloc (.cells #[.int .u64 (v.n : Int), .int .u8 (v.text.b0.toNat : Int), .int .u8 (v.text.b1.toNat : Int), .int .u8 (v.text.b2.toNat : Int), .int .u8 (v.text.b3.toNat : Int), .int .u8 (v.text.b4.toNat : Int), .int .u8 (v.text.b5.toNat : Int), .int .u8 (v.text.b6.toNat : Int), .int .u8 (v.text.b7.toNat : Int)] 30))) := (Below.refl _ _).alloc (Nat.le_refl _) _
  obtain ⟨x0, x1, x2, x3, x4, x5, x6, x7, x8⟩ := vlCells hb0
  have hg2 : (w.alloc (.cells #[.int .u64 (v.n : Int), .int .u8 (v.text.b0.toNat : Int), .int .u8 (v.text.b1.toNat : Int), .int .u8 (v.text.b2.toNat : Int), .int .u8 (v.text.b3.toNat : Int), .int .u8 (v.text.b4.toNat : Int), .int .u8 (v.text.b5.toNat : Int), .int .u8 (v.text.b6.toNat : Int), .int .u8 (v.text.b7.toNat : Int)] 30)).cell? ⟨g, 0, none⟩ = some (.func (.func 99) #[] #[]) := by rw [World.cell?_alloc_lt _ _ _ (World.block_lt_of_cell? _ _ hg)]; exact hg
  clear hg
  go_enter Try.func103, Try.ntmps103
  go_wp2_with fail
  generalize w.alloc (.cells #[.int .u64 (v.n : Int), .int .u8 (v.text.b0.toNat : Int), .int .u8 (v.text.b1.toNat : Int), .int .u8 (v.text.b2.toNat : Int), .int .u8 (v.text.b3.toNat : Int), .int .u8 (v.text.b4.toNat : Int), .int .u8 (v.text.b5.toNat : Int), .int .u8 (v.text.b6.toNat : Int), .int .u8 (v.text.b7.toNat : Int)] 30) = W at hb0 hs0 HB x0 x1 x2 x3 x4 x5 x6 x7 x8 hg2 ⊢
  clear x0 x1 x2 x3 x4 x5 x6 x7 x8 hg2
  refine (bare_calls v W).mono ?_
  rintro r w1 ⟨⟨b, rfl⟩, hb⟩
  have HB1 := Lib.hid (HB.out.trans (hb.mono (by omega)))
  have hb1 := hb0.below hb hs0
  obtain ⟨y0, _, _, _, _, _, _, _, _⟩ := vlCells hb1
  clear hb hb0 hb1 HB
  cases b
  · go_wp2
    go_ret
    exact ⟨by first | exact ⟨_, rfl⟩ | exact .inl rfl | exact .inr rfl, HB1.out⟩
  · by_cases h1 : v.n = 1
    · have t1 : ((v.n : Int) == 1) = true := by simp; omega
      clear h1
      go_wp2
      go_ret
      exact ⟨by first | exact ⟨_, rfl⟩ | exact .inl rfl | exact .inr rfl, HB1.out⟩
    · have t1 : ((v.n : Int) == 1) = false := by simp; omega
      have T2 : ((v.n : Int) == 2) = true ∨ ((v.n : Int) == 2) = false := by cases ((v.n : Int) == 2) <;> simp
      clear h1
      rcases T2 with T2 | T2 <;>
      · go_wp2
        go_ret
        exact ⟨by first | exact ⟨_, rfl⟩ | exact .inl rfl | exact .inr rfl, HB1.out⟩
theorem note_calls (v : Vl) (g : Nat) (w : World) (hg : w.cell? ⟨g, 0, none⟩ = some (.func (.func 99) #[] #[])) :
    Calls Try.prog 104 #[.agg #[.int .u64 (v.n : Int), .int .u8 (v.text.b0.toNat : Int), .int .u8 (v.text.b1.toNat : Int), .int .u8 (v.text.b2.toNat : Int), .int .u8 (v.text.b3.toNat : Int), .int .u8 (v.text.b4.toNat : Int), .int .u8 (v.text.b5.toNat : Int), .int .u8 (v.text.b6.toNat : Int), .int .u8 (v.text.b7.toNat : Int)], .pointer (some ⟨g, 0, none⟩)] w fun r w' => (∃ b, r = .returned (.bool b) ∧ (b = true → v.n < 1099511627776)) ∧ Below w.heap.size w w' := by
  have hb0 := Blk.new w 30 #[.int .u64 (v.n : Int), .int .u8 (v.text.b0.toNat : Int), .int .u8 (v.text.b1.toNat : Int), .int .u8 (v.text.b2.toNat : Int), .int .u8 (v.text.b3.toNat : Int), .int .u8 (v.text.b4.toNat : Int), .int .u8 (v.text.b5.toNat : Int), .int .u8 (v.text.b6.toNat : Int), .int .u8 (v.text.b7.toNat : Int)]
  have hs0 : w.heap.size < (w.alloc (.cells #[.int .u64 (v.n : Int), .int .u8 (v.text.b0.toNat : Int), .int .u8 (v.text.b1.toNat : Int), .int .u8 (v.text.b2.toNat : Int), .int .u8 (v.text.b3.toNat : Int), .int .u8 (v.text.b4.toNat : Int), .int .u8 (v.text.b5.toNat : Int), .int .u8 (v.text.b6.toNat : Int), .int .u8 (v.text.b7.toNat : Int)] 30)).heap.size := by simp
  have HB : Hid (Below w.heap.size w (w.alloc (.cells #[.int .u64 (v.n : Int), .int .u8 (v.text.b0.toNat : Int), .int .u8 (v.text.b1.toNat : Int), .int .u8 (v.text.b2.toNat : Int), .int .u8 (v.text.b3.toNat : Int), .int .u8 (v.text.b4.toNat : Int), .int .u8 (v.text.b5.toNat : Int), .int .u8 (v.text.b6.toNat : Int), .int .u8 (v.text.b7.toNat : Int)] 30))) := (Below.refl _ _).alloc (Nat.le_refl _) _
  obtain ⟨x0, x1, x2, x3, x4, x5, x6, x7, x8⟩ := vlCells hb0
  have hg2 : (w.alloc (.cells #[.int .u64 (v.n : Int), .int .u8 (v.text.b0.toNat : Int), .int .u8 (v.text.b1.toNat : Int), .int .u8 (v.text.b2.toNat : Int), .int .u8 (v.text.b3.toNat : Int), .int .u8 (v.text.b4.toNat : Int), .int .u8 (v.text.b5.toNat : Int), .int .u8 (v.text.b6.toNat : Int), .int .u8 (v.text.b7.toNat : Int)] 30)).cell? ⟨g, 0, none⟩ = some (.func (.func 99) #[] #[]) := by rw [World.cell?_alloc_lt _ _ _ (World.block_lt_of_cell? _ _ hg)]; exact hg
  clear hg
  go_enter Try.func104, Try.ntmps104
  go_wp2_with fail
  generalize w.alloc (.cells #[.int .u64 (v.n : Int), .int .u8 (v.text.b0.toNat : Int), .int .u8 (v.text.b1.toNat : Int), .int .u8 (v.text.b2.toNat : Int), .int .u8 (v.text.b3.toNat : Int), .int .u8 (v.text.b4.toNat : Int), .int .u8 (v.text.b5.toNat : Int), .int .u8 (v.text.b6.toNat : Int), .int .u8 (v.text.b7.toNat : Int)] 30) = W at hb0 hs0 HB x0 x1 x2 x3 x4 x5 x6 x7 x8 hg2 ⊢
  refine (stamped_calls v.n W).mono ?_
  rintro r w1 ⟨⟨e, rfl, he⟩, rfl⟩
  have HE := Lib.hid he
  clear he
  by_cases h0 : e = 0
  · have HV := Lib.hid (HE.out h0)
    have t0 : (e == 0) = true := by simp [h0]
    clear HE h0
    go_wp2_with fail
    refine (bare_calls v W).mono ?_
    rintro r w1 ⟨⟨b, rfl⟩, hb⟩
    have HB1 := Lib.hid (HB.out.trans (hb.mono (by omega)))
    have hb1 := hb0.below hb hs0
    have hs1 := hb.size
    clear hb hb0 HB x0 x1 x2 x3 x4 x5 x6 x7 x8 hg2
    obtain ⟨y0, y1, y2, y3, y4, y5, y6, y7, y8⟩ := vlCells hb1
    cases b
    · go_wp2_with fail
      refine (nright_calls v.text _).mono ?_
      rintro r w2 ⟨⟨b2, rfl⟩, hb2⟩
      have HB2 := Lib.hid (HB1.out.trans (hb2.mono (by omega)))
      clear hb2 HB1 y0 y1 y2 y3 y4 y5 y6 y7 y8 hb1
      go_wp2
      go_ret
      exact ⟨⟨_, rfl, fun _ => HV.out⟩, HB2.out⟩
    · go_wp2
      go_ret
      exact ⟨⟨_, rfl, fun _ => HV.out⟩, HB1.out⟩
  · have t0 : (e == 0) = false := by simp [h0]
    clear HE h0
    go_wp2
    go_ret
    exact ⟨⟨_, rfl, fun h => by cases h⟩, HB.out⟩
end Go.Proofs.Ytogdbccfkbbcaaa
