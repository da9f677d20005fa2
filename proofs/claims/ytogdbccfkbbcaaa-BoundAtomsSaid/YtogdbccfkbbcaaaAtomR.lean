/- The walks of package atom: is an atom right? -/
import Derived.Test.YtogdbccfkbbcaaaAtomW
import Derived.Laws.EntriesVeiled
namespace Go.Proofs.Ytogdbccfkbbcaaa
open Go.RowKit
set_option linter.unusedSimpArgs false
set_option maxRecDepth 100000 in
theorem rules_calls (w : World) : Calls Try.prog 83 #[] w fun r w' => r = .returned (.agg #[.func (.func 102) #[] #[], .func (.func 103) #[] #[.pointer (some ⟨w.heap.size + 1, 0, none⟩)], .func (.func 101) #[] #[.pointer (some ⟨w.heap.size + 1, 0, none⟩)], .func (.func 101) #[] #[.pointer (some ⟨w.heap.size + 1, 0, none⟩)], .func (.func 104) #[] #[.pointer (some ⟨w.heap.size + 1, 0, none⟩)]]) ∧ w'.cell? ⟨w.heap.size + 1, 0, none⟩ = some (.func (.func 99) #[] #[]) ∧ Below w.heap.size w w' := by
  have hmf : ∀ (fn : Fn) (first cap : Array Value) (w : World), (Instr.makeFunc fn first cap).run Try.prog w = .ok (.func fn first cap) w := fun _ _ _ _ => rfl
  go_enter Try.func83, Try.ntmps83
  go_wp2
  have hb := (Blk.new w 117 #[.func (.func 102) #[] #[], .func (.func 103) #[] #[.pointer (some ⟨w.heap.size + 1, 0, none⟩)], .func (.func 101) #[] #[.pointer (some ⟨w.heap.size + 1, 0, none⟩)], .func (.func 101) #[] #[.pointer (some ⟨w.heap.size + 1, 0, none⟩)], .func (.func 104) #[] #[.pointer (some ⟨w.heap.size + 1, 0, none⟩)]]).alloc (.cells #[.func (.func 99) #[] #[]] 116)
  have hc := (Blk.new (w.alloc (.cells #[.func (.func 102) #[] #[], .func (.func 103) #[] #[.pointer (some ⟨w.heap.size + 1, 0, none⟩)], .func (.func 101) #[] #[.pointer (some ⟨w.heap.size + 1, 0, none⟩)], .func (.func 101) #[] #[.pointer (some ⟨w.heap.size + 1, 0, none⟩)], .func (.func 104) #[] #[.pointer (some ⟨w.heap.size + 1, 0, none⟩)]] 117)) 116 #[.func (.func 99) #[] #[]]).cell 0
  rw [World.size_alloc] at hc
  exact bodyPost_ret (results_cell_row rfl _ _ w.heap.size 117 #[.func (.func 102) #[] #[], .func (.func 103) #[] #[.pointer (some ⟨w.heap.size + 1, 0, none⟩)], .func (.func 101) #[] #[.pointer (some ⟨w.heap.size + 1, 0, none⟩)], .func (.func 101) #[] #[.pointer (some ⟨w.heap.size + 1, 0, none⟩)], .func (.func 104) #[] #[.pointer (some ⟨w.heap.size + 1, 0, none⟩)]] (0, 0) _ rfl hb Try.underlying117 rfl (by kernel_rfl)) rfl ⟨rfl, hc, ((Below.refl _ _).alloc (Nat.le_refl _) _).alloc (by simp) _⟩
/-- An atom. -/
structure At where
  k : Ky
  v : Vl
/-- What 'right' is needed for: the value's bounds. -/
def Fine (a : At) : Prop := 1 ≤ a.k.sort.toNat ∧ a.k.sort.toNat ≤ 4 ∧ ((a.k.sort.toNat = 2 ∨ a.k.sort.toNat = 3) → a.v.n < 4294967296) ∧ (a.k.sort.toNat = 4 → a.v.n < 1099511627776)
theorem idx_rules (g : Nat) (W : World) : (Instr.index 117 (.agg #[.func (.func 102) #[] #[], .func (.func 103) #[] #[.pointer (some ⟨g, 0, none⟩)], .func (.func 101) #[] #[.pointer (some ⟨g, 0, none⟩)], .func (.func 101) #[] #[.pointer (some ⟨g, 0, none⟩)], .func (.func 104) #[] #[.pointer (some ⟨g, 0, none⟩)]]) (.int .u8 1)).run Try.prog W = .ok (.func (.func 103) #[] #[.pointer (some ⟨g, 0, none⟩)]) W ∧
    (Instr.index 117 (.agg #[.func (.func 102) #[] #[], .func (.func 103) #[] #[.pointer (some ⟨g, 0, none⟩)], .func (.func 101) #[] #[.pointer (some ⟨g, 0, none⟩)], .func (.func 101) #[] #[.pointer (some ⟨g, 0, none⟩)], .func (.func 104) #[] #[.pointer (some ⟨g, 0, none⟩)]]) (.int .u8 2)).run Try.prog W = .ok (.func (.func 101) #[] #[.pointer (some ⟨g, 0, none⟩)]) W ∧
    (Instr.index 117 (.agg #[.func (.func 102) #[] #[], .func (.func 103) #[] #[.pointer (some ⟨g, 0, none⟩)], .func (.func 101) #[] #[.pointer (some ⟨g, 0, none⟩)], .func (.func 101) #[] #[.pointer (some ⟨g, 0, none⟩)], .func (.func 104) #[] #[.pointer (some ⟨g, 0, none⟩)]]) (.int .u8 3)).run Try.prog W = .ok (.func (.func 101) #[] #[.pointer (some ⟨g, 0, none⟩)]) W ∧
    (Instr.index 117 (.agg #[.func (.func 102) #[] #[], .func (.func 103) #[] #[.pointer (some ⟨g, 0, none⟩)], .func (.func 101) #[] #[.pointer (some ⟨g, 0, none⟩)], .func (.func 101) #[] #[.pointer (some ⟨g, 0, none⟩)], .func (.func 104) #[] #[.pointer (some ⟨g, 0, none⟩)]]) (.int .u8 4)).run Try.prog W = .ok (.func (.func 104) #[] #[.pointer (some ⟨g, 0, none⟩)]) W :=
  ⟨by kernel_rfl, by kernel_rfl, by kernel_rfl, by kernel_rfl⟩
end Go.Proofs.Ytogdbccfkbbcaaa
