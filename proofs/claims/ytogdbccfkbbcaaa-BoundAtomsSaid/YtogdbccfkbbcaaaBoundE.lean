/- The walks: the ladder's path, as a call; the stages as an iterator. -/
import Derived.Test.YtogdbccfkbbcaaaBoundB
import Derived.Test.YtogdbccfkbbcaaaBoundD
namespace Go.Proofs.Ytogdbccfkbbcaaa
open Go.RowKit Go.Shelf
set_option linter.unusedSimpArgs false
set_option maxHeartbeats 1000000 in
set_option maxRecDepth 100000 in
theorem collect3 (n : Nat) (hn : 5 ≤ n) (B : Nat) (w : World) (hB : w.cell? ⟨B, 0, none⟩ = some (.int .i64 3)) (hBw : B < w.heap.size) :
    CallsIn Fence.wide n Try.prog 107 #[.func (.func 121) #[] #[.pointer (some ⟨B, 0, none⟩)]] w (fun e W' => ∃ v, e = .returned v ∧ W'.ownsRow w.heap.size 3 1 v 1 [.int .i64 3] ∧ Below w.heap.size w W') := by
  refine callsIn_of_wp Try.func107 rfl trivial ?_ rfl
  simp only [Try.ntmps107, List.size_toArray, List.length_cons, List.length_nil, Nat.reduceAdd, Nat.reduceSub, Array.replicate_succ, Array.replicate_zero, List.push_toArray, List.append_toArray, List.nil_append, List.cons_append]
  have h1 : 1 ≤ n := by omega
  gi_wp2_with (fail)
  refine ⟨trivial, (append_seq (n - 1) (by omega) B w hB hBw).mono ?_⟩
  rintro e w' ⟨v, rfl, hrow, hb⟩
  gi_wp2_with (fail)
  go_ret
  exact ⟨v, rfl, hrow, hb⟩

theorem up3 (w : World) : Calls Try.prog 108 #[.int .i64 3] w fun r w' => r = .returned (.func (.func 121) #[] #[.pointer (some ⟨w.heap.size, 0, none⟩)]) ∧ w'.cell? ⟨w.heap.size, 0, none⟩ = some (.int .i64 3) ∧ w'.heap.size = w.heap.size + 1 ∧ Below w.heap.size w w' := by
  go_enter Try.func108, Try.ntmps108
  go_wp2
  go_ret
  exact ⟨rfl, by simp, by simp, (Below.refl _ w).alloc (Nat.le_refl _) _⟩

set_option maxHeartbeats 1000000 in
theorem path3 (w : World) : Calls Try.prog 87 #[.int .i64 3] w fun r w' => (∃ g cap, r = .returned (.slice (some ⟨g, 0, none⟩) 1 cap) ∧ w'.cell? ⟨g, 0, none⟩ = some (.int .i64 3)) ∧ Below w.heap.size w w' := by
  go_enter Try.func87, Try.ntmps87
  go_wp2_with fail
  refine (up3 w).mono ?_
  rintro r w1 ⟨rfl, hc, hs, hb⟩
  go_wp2_with fail
  refine (callsIn_wide.1 (collect3 5 (Nat.le_refl _) w.heap.size w1 hc (by omega))).mono ?_
  rintro e w2 ⟨v, rfl, hrow, hb2⟩
  obtain ⟨g, cap, rfl⟩ := ownsRow_succ hrow
  have hc2 : w2.cell? ⟨g, 0, none⟩ = some (.int .i64 3) := by
    rcases hrow.2 with ⟨h, _⟩ | ⟨g', cap', cur, hv, _, hgb, _, _, hcs, htk⟩
    · cases h
    · cases hv
      have h0 : cur[0]? = some (.int .i64 3) := by
        have := congrArg (fun z : List Value => z[0]?) htk
        simpa using this
      simp [World.cell?, hgb, h0]
  go_wp2
  go_ret
  exact ⟨⟨g, cap, rfl, hc2⟩, hb.trans (hb2.mono (by omega))⟩
end Go.Proofs.Ytogdbccfkbbcaaa
