/- The walks: the stages as an iterator. -/
import Derived.Test.YtogdbccfkbbcaaaBoundE
namespace Go.Proofs.Ytogdbccfkbbcaaa
open Go.RowKit Go.Shelf
attribute [local go_sem] Oper.semAt_some
set_option linter.unusedSimpArgs false
set_option maxHeartbeats 2000000 in
set_option maxRecDepth 100000 in
theorem stages_stops (n : Nat) (hn : 8 ≤ n) (B n0 : Nat) (w : World) (hB : w.cell? ⟨B, 0, none⟩ = some (.int .i64 3)) (hBw : B < w.heap.size) :
    SeqStopsK Fence.wide n Try.prog 86 #[.pointer (some ⟨B, 0, none⟩)] (fun _ : Unit => #[.int .i64 3, .agg #[.int .u8 10, .int .u8 11]]) (Below n0) (fun xs => xs = [()]) (fun pre => pre = [()]) 1 w := fun l J Jx W hW hJ hJx hY h0 => by
  refine callsIn_of_wp Try.func86 rfl trivial ?_ rfl
  simp only [Try.ntmps86, List.size_toArray, List.length_cons, List.length_nil, Nat.reduceAdd, Nat.reduceSub, Array.replicate_succ, Array.replicate_zero, List.push_toArray, List.append_toArray, List.nil_append, List.cons_append]
  have hb := (hW.cell (p := ⟨B, 0, none⟩) hBw).trans hB
  gi_wp2_with (fail)
  refine ⟨trivial, fun _ => by omega, (callsIn_wide.2 (path3 W)).mono ?_⟩
  rintro r W1 ⟨⟨g, cap, rfl, hc1⟩, hb1⟩
  have hJ1 := hJ [] W W1 none h0 (grown_of_below hb1 none) (fun r e => by cases e)
  have hs1 := hb1.size
  clear h0 hb
  gi_wp2_with (fail)
  refine wpIn_loop_rounds 2 ?_
  rw [roundsIn_succ]
  gi_wp2_with (fail)
  refine ⟨trivial, fun _ => by omega, (callsIn_wide.2 (stages3 W1)).mono ?_⟩
  rintro r W2 ⟨⟨q, rfl, hq0, hq1⟩, hb2⟩
  have hJ2 := hJ [] W1 W2 none hJ1 (grown_of_below hb2 none) (fun r e => by cases e)
  have hs2 := hb2.size
  clear hb1 hc1 hJ1
  gi_wp2_with (fail)
  refine wpIn_loop_rounds 2 ?_
  rw [roundsIn_succ]
  gi_wp2_with (fail)
  have hJ3 := hJ [] W2 _ none hJ2 (grown_of_below ((Below.refl _ W2).alloc (Nat.le_refl _) (.cells #[.int .u8 10, .int .u8 11] 86)) none) (fun r e => by cases e)
  generalize W2.alloc (.cells #[.int .u8 10, .int .u8 11] 86) = W3 at hJ3 ⊢
  obtain ⟨fn, tmps, assign, body, hy, hR⟩ := hY [] () W3 hJ3 (by simp)
  clear hY hJ2 hq0 hq1 hb2
  rw [hy]
  simp only [Oper.uponIn]
  refine ⟨fun _ => by omega, hR.mono ?_⟩
  rintro e W4 (⟨rfl, hJ4, _⟩ | ⟨rfl, hx4⟩)
  · clear hR hy hJ
    gi_wp2_with (fail)
    rw [roundsIn_succ]
    gi_wp2_with (fail)
    rw [roundsIn_succ]
    gi_wp2_with (fail)
    go_end0
    exact ⟨⟨_, rfl⟩, .inl ⟨_, rfl, hJ4⟩⟩
  · clear hR hy hJ
    gi_wp2_with (fail)
    refine bodyPost_ret (results_none rfl _ _ _) rfl ?_
    exact ⟨⟨_, rfl⟩, .inr ⟨_, rfl, hx4⟩⟩
end Go.Proofs.Ytogdbccfkbbcaaa
