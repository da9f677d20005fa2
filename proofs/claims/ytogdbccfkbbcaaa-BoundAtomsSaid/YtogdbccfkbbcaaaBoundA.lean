/- The walks of packages bound, blob and ladder: the small ones. -/
import Derived.Test.YtogdbccfkbbcaaaAtomX
namespace Go.Proofs.Ytogdbccfkbbcaaa
open Go.RowKit
set_option linter.unusedSimpArgs false
theorem pieces26 (w : World) : Calls Try.prog 56 #[.int .i64 2, .int .i64 6] w fun r w' => r = .returned (.int .i64 1) ∧ w = w' := by
  go_enter Try.func56, Try.ntmps56
  go_wp2
  go_ret
  exact ⟨rfl, rfl⟩
theorem clip0 (w : World) : Calls Try.prog 57 #[.int .i64 0, .int .i64 8192, .slice none 0 0] w fun r w' => r = .returned (.int .i64 0) ∧ w = w' := by
  go_enter Try.func57, Try.ntmps57
  have hmn : min (0 : Int) 8192 = 0 := by decide
  go_wp2
  refine wp_loop_rounds 1 ?_
  rw [rounds_succ]
  go_wp2
  go_ret
  exact ⟨rfl, rfl⟩
theorem next3 (w : World) : Calls Try.prog 123 #[.int .i64 3] w fun r w' => r = .returned (.int .i64 3) ∧ w = w' := by
  go_enter Try.func123, Try.ntmps123
  go_wp2
  go_ret
  exact ⟨rfl, rfl⟩
theorem stages3 (w : World) : Calls Try.prog 88 #[.int .i64 3] w fun r w' => (∃ g, r = .returned (.slice (some ⟨g, 10, none⟩) 1 1) ∧ w'.cell? ⟨g, 10, none⟩ = some (.int .u8 10) ∧ w'.cell? ⟨g, 11, none⟩ = some (.int .u8 11)) ∧ Below w.heap.size w w' := by
  go_enter Try.func88, Try.ntmps88
  go_wp2
  go_ret
  have hb := Blk.new w 86 #[.int .u8 1, .int .u8 2, .int .u8 3, .int .u8 4, .int .u8 9, .int .u8 4, .int .u8 5, .int .u8 6, .int .u8 7, .int .u8 8, .int .u8 10, .int .u8 11]
  exact ⟨⟨w.heap.size, rfl, hb.cell 10, hb.cell 11⟩, (Below.refl _ _).alloc (Nat.le_refl _) _⟩
theorem right3 (w : World) : Calls Try.prog 122 #[.int .i64 3] w fun r w' => r = .returned (.bool true) ∧ Below w.heap.size w w' := by
  go_enter Try.func122, Try.ntmps122
  go_wp2_with fail
  refine (stages3 w).mono ?_
  rintro r W ⟨⟨g, rfl, h1, h2⟩, hb⟩
  have HB := Lib.hid hb
  clear hb h1 h2
  go_wp2
  go_ret
  exact ⟨rfl, HB.out⟩
theorem just_calls (k : Int) (w : World) : Calls Try.prog 59 #[.int .i64 k] w fun r w' => r = .returned (.func (.func 60) #[] #[.pointer (some ⟨w.heap.size, 0, none⟩)]) ∧ w'.cell? ⟨w.heap.size, 0, none⟩ = some (.int .i64 k) ∧ Below w.heap.size w w' := by
  have hmf : ∀ (fn : Fn) (first cap : Array Value) (w : World), (Instr.makeFunc fn first cap).run Try.prog w = .ok (.func fn first cap) w := fun _ _ _ _ => rfl
  go_enter Try.func59, Try.ntmps59
  go_wp2
  go_ret
  exact ⟨rfl, (Blk.new w 3 #[.int .i64 k]).cell 0, (Below.refl _ _).alloc (Nat.le_refl _) _⟩
theorem just1_calls (k : Int) (g : Nat) (w : World) (hg : w.cell? ⟨g, 0, none⟩ = some (.int .i64 k)) : Calls Try.prog 60 #[.pointer (some ⟨g, 0, none⟩)] w fun r w' => r = .returned (.int .i64 k) ∧ w = w' := by
  go_enter Try.func60, Try.ntmps60
  go_wp2
  go_ret
  exact ⟨rfl, rfl⟩
theorem code_calls (g : Nat) (w : World) (hg : w.cell? ⟨g, 0, none⟩ = some (.int .i64 0)) : Calls Try.prog 58 #[.pointer (some ⟨g, 0, none⟩)] w fun r w' => r = .returned (.int .i64 2) ∧ w = w' := by
  go_enter Try.func58, Try.ntmps58
  go_wp2
  go_ret
  exact ⟨rfl, rfl⟩
/-- What holds while the table of parts is made: n's cell, 'code''s. -/
structure Bd (w W : World) : Prop where
  n : W.cell? ⟨w.heap.size, 0, none⟩ = some (.int .i64 0)
  c : W.cell? ⟨w.heap.size + 1, 0, none⟩ = some (.func (.func 58) #[] #[.pointer (some ⟨w.heap.size, 0, none⟩)])
  bel : Below w.heap.size w W
  size : w.heap.size + 2 ≤ W.heap.size
theorem Bd.step {w W W' : World} (h : Bd w W) (hb : Below W.heap.size W W') : Bd w W' :=
  ⟨(hb.cell (p := ⟨w.heap.size, 0, none⟩) (by have := h.size; simp; omega)).trans h.n, (hb.cell (p := ⟨w.heap.size + 1, 0, none⟩) (by have := h.size; simp; omega)).trans h.c, h.bel.trans (hb.mono (by have := h.size; omega)), Nat.le_trans h.size hb.size⟩
end Go.Proofs.Ytogdbccfkbbcaaa
