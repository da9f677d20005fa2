/- The walk of bound.Questions at (3, 0, 32). -/
import Derived.Test.YtogdbccfkbbcaaaBoundF
import Derived.Test.YtogdbccfkbbcaaaBoundG
namespace Go.Proofs.Ytogdbccfkbbcaaa
open Go.RowKit Go.Shelf
attribute [local go_sem] Oper.semAt_some
set_option linter.unusedSimpArgs false
theorem stages_calls (w : World) : Calls Try.prog 55 #[.int .i64 3] w fun r w' => r = .returned (.func (.func 86) #[] #[.pointer (some ⟨w.heap.size, 0, none⟩)]) ∧ w'.cell? ⟨w.heap.size, 0, none⟩ = some (.int .i64 3) ∧ w'.heap.size = w.heap.size + 1 ∧ Below w.heap.size w w' := by
  go_enter Try.func55, Try.ntmps55
  go_wp2
  go_ret
  exact ⟨rfl, by simp, by simp, (Below.refl _ w).alloc (Nat.le_refl _) _⟩
structure Qd (b4 b6 b7 bx : Nat) (k : Int) (W V : World) : Prop where
  c4 : V.cell? ⟨b4, 0, none⟩ = some (.int .i64 0)
  c6 : V.cell? ⟨b6, 0, none⟩ = some (.int .i64 k)
  c7 : V.cell? ⟨b7, 0, none⟩ = some (.int .i64 6)
  x0 : V.cell? ⟨bx, 0, none⟩ = some (.int .u8 10)
  x1 : V.cell? ⟨bx, 1, none⟩ = some (.int .u8 11)
  f6 : V.frozen? ⟨b6, 0, none⟩ = false
  bel : Below W.heap.size W V
theorem frozen_below {n : Nat} {A B : World} (h : Below n A B) {g : Nat} (hg : g < n) : B.frozen? ⟨g, 0, none⟩ = A.frozen? ⟨g, 0, none⟩ := by
  unfold World.frozen?
  rw [show B.heap[g]? = A.heap[g]? from h.block g hg]
theorem Qd.step {b4 b6 b7 bx : Nat} {k : Int} {W V V' : World} (h : Qd b4 b6 b7 bx k W V) (hb : Below V.heap.size V V') : Qd b4 b6 b7 bx k W V' :=
  ⟨(hb.cell (World.block_lt_of_cell? _ _ h.c4)).trans h.c4, (hb.cell (World.block_lt_of_cell? _ _ h.c6)).trans h.c6, (hb.cell (World.block_lt_of_cell? _ _ h.c7)).trans h.c7,
   (hb.cell (World.block_lt_of_cell? _ _ h.x0)).trans h.x0, (hb.cell (World.block_lt_of_cell? _ _ h.x1)).trans h.x1, (frozen_below hb (World.block_lt_of_cell? _ _ h.c6)).trans h.f6, h.bel.trans (hb.mono h.bel.size)⟩
def Qs (b4 b6 b7 bx : Nat) (k : Int) (V : World) : Prop := V.cell? ⟨b4, 0, none⟩ = some (.int .i64 0) ∧ V.cell? ⟨b6, 0, none⟩ = some (.int .i64 k) ∧ V.cell? ⟨b7, 0, none⟩ = some (.int .i64 6) ∧ V.cell? ⟨bx, 0, none⟩ = some (.int .u8 10) ∧ V.cell? ⟨bx, 1, none⟩ = some (.int .u8 11)
theorem Qd.s {b4 b6 b7 bx : Nat} {k : Int} {W V : World} (h : Qd b4 b6 b7 bx k W V) : Qs b4 b6 b7 bx k V := ⟨h.c4, h.c6, h.c7, h.x0, h.x1⟩
theorem bytes10 (w : World) : Calls Try.prog 25 #[.int .u8 10, .int .i64 0] w fun r w' => r = .returned (.int .i64 2) ∧ Below w.heap.size w w' := by
  have := bytes0 10 (by simp) w
  simpa using this
theorem bytes11 (w : World) : Calls Try.prog 25 #[.int .u8 11, .int .i64 0] w fun r w' => r = .returned (.int .i64 2) ∧ Below w.heap.size w w' := by
  have := bytes0 11 (by simp) w
  simpa using this
set_option maxHeartbeats 4000000 in
set_option maxRecDepth 100000 in
theorem questions3 (w : World) : Calls Try.prog 24 #[.int .i64 3, .int .i64 0, .int .i64 32] w fun r w' => r = .returned (.int .i64 1) ∧ Below w.heap.size w w' := by
  refine (callsIn_wide (n := 16)).1 ?_
  refine callsIn_of_wp_marks Try.func24 rfl trivial ?_ rfl
  simp only [Try.ntmps24, List.size_toArray, List.length_cons, List.length_nil, Nat.reduceAdd, Nat.reduceSub, Array.replicate_succ, Array.replicate_zero, List.push_toArray, List.append_toArray, List.nil_append, List.cons_append]
  gi_wp2_with (fail)
  refine ⟨trivial, (callsIn_wide.2 (room_calls 32 _ (by decide) (by decide))).mono ?_⟩
  rintro r W0 ⟨rfl, rfl⟩
  simp only [show (if (32 : Int) < 32 then (0 : Int) else min (32 - 26) 65536) = 6 by decide]
  gi_wp2_with (fail)
  have bA := ((Boxed.new w 3 (.int .i64 0)).alloc (.cells #[.int .i64 0] 3)).alloc (.cells #[.int .i64 6] 3)
  have bR := (Boxed.new (w.alloc (.cells #[.int .i64 0] 3)) 3 (.int .i64 0)).alloc (.cells #[.int .i64 6] 3)
  have bM := Boxed.new ((w.alloc (.cells #[.int .i64 0] 3)).alloc (.cells #[.int .i64 0] 3)) 3 (.int .i64 6)
  simp only [World.size_alloc] at bR bM
  have hB0 : Below w.heap.size w (((w.alloc (.cells #[.int .i64 0] 3)).alloc (.cells #[.int .i64 0] 3)).alloc (.cells #[.int .i64 6] 3)) := (((Below.refl _ w).alloc (Nat.le_refl _) _).alloc (by simp) _).alloc (by simp; omega) _
  have hsz : (((w.alloc (.cells #[.int .i64 0] 3)).alloc (.cells #[.int .i64 0] 3)).alloc (.cells #[.int .i64 6] 3)).heap.size = w.heap.size + 3 := by simp
  generalize ((w.alloc (.cells #[.int .i64 0] 3)).alloc (.cells #[.int .i64 0] 3)).alloc (.cells #[.int .i64 6] 3) = W0 at bA bR bM hB0 hsz ⊢
  refine ⟨trivial, (callsIn_wide.2 (stages_calls W0)).mono ?_⟩
  rintro r W1 ⟨rfl, hc, hs1, hb1⟩
  have bA1 : Boxed W1 w.heap.size 3 (.int .i64 0) := (hb1.block _ (by omega)).trans bA
  have bR1 : Boxed W1 (w.heap.size + 1) 3 (.int .i64 0) := (hb1.block _ (by omega)).trans bR
  have bM1 : Boxed W1 (w.heap.size + 1 + 1) 3 (.int .i64 6) := (hb1.block _ (by omega)).trans bM
  have hB1 := hB0.trans (hb1.mono (by omega))
  rw [hsz] at hc hs1
  clear bA bR bM hB0 hb1
  gi_wp2_with (fail)
  refine wpIn_rangeFunc_ownH rfl (by omega) (gf := 86) (lb := #[.pointer (some ⟨w.heap.size + 3, 0, none⟩)]) rfl trivial (enters_of Try.func86 (by kernel_rfl) rfl)
    (stages_stops 15 (by omega) (w.heap.size + 3) w.heap.size W1 hc (by omega)) belowK_t (belowK_b (by omega)) (Below.refl _ _) (fun _ => rfl)
    (fun pre W => ((Boxed W w.heap.size 3 (.int .i64 0) ∧ Boxed W (w.heap.size + 1 + 1) 3 (.int .i64 6)) ∧ Boxed W (w.heap.size + 1) 3 (.int .i64 (pre.length : Int))) ∧ Below w.heap.size w W)
    (fun _ _ _ => False)
    (OwnFrom.and (OwnFrom.and (OwnFrom.and (Own.from (boxed_own _ _ _) _) (Own.from (boxed_own _ _ _) _)) (Own.from (boxed_own _ _ (fun pre : List Unit => .int .i64 (pre.length : Int))) _)) (ownFrom_below (Nat.le_refl _) (by omega)))
    (fun _ _ _ _ _ hs _ _ => hs)
    ⟨⟨⟨bA1, bM1⟩, bR1⟩, hB1⟩
    (fun _ a' W => ∃ Bx, w.heap.size + 1 + 1 < Bx ∧ W.heap[Bx]? = some (.cells #[.int .u8 10, .int .u8 11] 86 (0, 0)) ∧ a' = { tmps := #[.int .i64 3, .int .i64 0, .int .i64 32, undef, .pointer (some ⟨w.heap.size, 0, none⟩), undef, .pointer (some ⟨w.heap.size + 1, 0, none⟩), .pointer (some ⟨w.heap.size + 1 + 1, 0, none⟩), undef, .pointer (some ⟨Bx, 0, none⟩), .int .i64 32, .int .i64 6, .int .i64 6, .bool false, .int .i64 3, .func (.func 86) #[] #[.pointer (some ⟨w.heap.size + 3, 0, none⟩)], .int .i64 3, .agg #[.int .u8 10, .int .u8 11], undef, undef, undef, undef, undef, undef, undef, undef, undef, undef, undef, undef, undef, undef, undef, undef, undef], defers := [] })
    (fun x a' _ X Y row hs hg hr => by
      obtain ⟨Bx, h1, h2, h3⟩ := hs
      refine ⟨Bx, h1, (hg.block Bx (Array.getElem?_eq_some_iff.1 h2).1 (fun e => ?_)).trans h2, h3⟩
      obtain ⟨_, o, ho, hc⟩ := hr Bx e.symm
      rw [h2] at ho; cases ho; cases hc)
    ?assign ?body ?done ?stop
  case assign =>
    rintro l pre x W K ⟨⟨⟨bA2, bM2⟩, bR2⟩, hB2⟩ hK
    gi_wp2
    exact hK _ _ ((KeepsOthers.alloc _ _).from _) ((Below.refl _ W).alloc hB2.size _) ⟨⟨⟨bA2.alloc _, bM2.alloc _⟩, bR2.alloc _⟩, hB2.alloc hB2.size _⟩ ⟨W.heap.size, bM2.lt, World.alloc_heap_new W _, rfl⟩
  case body =>
    rintro l pre x a' W hl _ ⟨⟨⟨bA2, bM2⟩, bR2⟩, hB2⟩ ⟨Bx, hBx, bX, rfl⟩ hlt
    obtain rfl : pre = [] := List.eq_nil_of_length_eq_zero (by omega)
    have bR3 : Boxed W (w.heap.size + 1) 3 (.int .i64 0) := bR2
    have hst0 : Qd w.heap.size (w.heap.size + 1) (w.heap.size + 1 + 1) Bx 0 W W.drew := ⟨bA2.cell, bR3.cell, bM2.cell, by show W.cell? _ = _; simp [World.cell?, bX], by show W.cell? _ = _; simp [World.cell?, bX], bR3.frozen, below_drewN (Below.refl _ W) 1⟩
    gi_wp2_with (fail)
    refine region_round (Qs w.heap.size (w.heap.size + 1) (w.heap.size + 1 + 1) Bx 0) 16 (by kernel_rfl) (by kernel_rfl) (by rintro ⟨a, w, h⟩; exact h) hst0.s (fun hHeld => ?_)
    generalize W.drew = V0 at hst0 hHeld ⊢
    refine wpAnyZ_take (i := 0) (v := (.int .i64 0)) rfl (by kernel_rfl) (by kernel_rfl) (by kernel_rfl) (by kernel_rfl) (fun _ _ _ h => h) (Or.inl ⟨by rfl, ?_⟩) (by assumption) ?_
    · intro w9 hSw
      obtain ⟨s1, s2, s3, s4, s5⟩ := hSw; go_simp
    try simp only [Act.put, List.setIfInBounds_toArray, List.set_cons_zero, List.set_cons_succ, List.getElem_toArray, List.getElem_cons_succ, List.getElem_cons_zero]
    refine wpAnyZ_take (i := 1) (v := (.pointer (some ⟨Bx, 0, none⟩))) rfl (by kernel_rfl) (by kernel_rfl) (by kernel_rfl) (by kernel_rfl) (fun _ _ _ h => h) (Or.inl ⟨by rfl, ?_⟩) (by assumption) ?_
    · intro w9 hSw
      go_simp
    try simp only [Act.put, List.setIfInBounds_toArray, List.set_cons_zero, List.set_cons_succ, List.getElem_toArray, List.getElem_cons_succ, List.getElem_cons_zero]
    refine wpAnyZ_take (i := 2) (v := (.int .u8 10)) rfl (by kernel_rfl) (by kernel_rfl) (by kernel_rfl) (by kernel_rfl) (fun _ _ _ h => h) (Or.inl ⟨by rfl, ?_⟩) (by assumption) ?_
    · intro w9 hSw
      obtain ⟨s1, s2, s3, s4, s5⟩ := hSw; go_simp
    try simp only [Act.put, List.setIfInBounds_toArray, List.set_cons_zero, List.set_cons_succ, List.getElem_toArray, List.getElem_cons_succ, List.getElem_cons_zero]
    refine wpAnyZ_take (i := 3) (v := (.int .i64 0)) rfl (by kernel_rfl) (by kernel_rfl) (by kernel_rfl) (by kernel_rfl) (fun _ _ _ h => h) (Or.inl ⟨by rfl, ?_⟩) (by assumption) ?_
    · intro w9 hSw
      obtain ⟨s1, s2, s3, s4, s5⟩ := hSw; go_simp
    try simp only [Act.put, List.setIfInBounds_toArray, List.set_cons_zero, List.set_cons_succ, List.getElem_toArray, List.getElem_cons_succ, List.getElem_cons_zero]
    refine wpAnyZ_take (i := 5) (v := (.int .i64 6)) rfl (by kernel_rfl) (by kernel_rfl) (by kernel_rfl) (by kernel_rfl) (fun _ _ _ h => h) (Or.inl ⟨by rfl, ?_⟩) (by assumption) ?_
    · intro w9 hSw
      obtain ⟨s1, s2, s3, s4, s5⟩ := hSw; go_simp
    try simp only [Act.put, List.setIfInBounds_toArray, List.set_cons_zero, List.set_cons_succ, List.getElem_toArray, List.getElem_cons_succ, List.getElem_cons_zero]
    refine wpAnyZ_take (i := 7) (v := (.pointer (some ⟨Bx, 1, none⟩))) rfl (by kernel_rfl) (by kernel_rfl) (by kernel_rfl) (by kernel_rfl) (fun _ _ _ h => h) (Or.inl ⟨by rfl, ?_⟩) (by assumption) ?_
    · intro w9 hSw
      go_simp
    try simp only [Act.put, List.setIfInBounds_toArray, List.set_cons_zero, List.set_cons_succ, List.getElem_toArray, List.getElem_cons_succ, List.getElem_cons_zero]
    refine wpAnyZ_take (i := 8) (v := (.int .u8 11)) rfl (by kernel_rfl) (by kernel_rfl) (by kernel_rfl) (by kernel_rfl) (fun _ _ _ h => h) (Or.inl ⟨by rfl, ?_⟩) (by assumption) ?_
    · intro w9 hSw
      obtain ⟨s1, s2, s3, s4, s5⟩ := hSw; go_simp
    try simp only [Act.put, List.setIfInBounds_toArray, List.set_cons_zero, List.set_cons_succ, List.getElem_toArray, List.getElem_cons_succ, List.getElem_cons_zero]
    refine wpAnyZ_take (i := 9) (v := (.int .i64 0)) rfl (by kernel_rfl) (by kernel_rfl) (by kernel_rfl) (by kernel_rfl) (fun _ _ _ h => h) (Or.inl ⟨by rfl, ?_⟩) (by assumption) ?_
    · intro w9 hSw
      obtain ⟨s1, s2, s3, s4, s5⟩ := hSw; go_simp
    try simp only [Act.put, List.setIfInBounds_toArray, List.set_cons_zero, List.set_cons_succ, List.getElem_toArray, List.getElem_cons_succ, List.getElem_cons_zero]
    refine wpAnyZ_take (i := 11) (v := (.int .i64 6)) rfl (by kernel_rfl) (by kernel_rfl) (by kernel_rfl) (by kernel_rfl) (fun _ _ _ h => h) (Or.inl ⟨by rfl, ?_⟩) (by assumption) ?_
    · intro w9 hSw
      obtain ⟨s1, s2, s3, s4, s5⟩ := hSw; go_simp
    try simp only [Act.put, List.setIfInBounds_toArray, List.set_cons_zero, List.set_cons_succ, List.getElem_toArray, List.getElem_cons_succ, List.getElem_cons_zero]
    refine wpAnyZ_ready (rs := [4]) (by kernel_rfl) (by simp) ?_
    refine AllReadyZ.cons rfl (fun K hK => ?_) AllReadyZ.nil
    go_simp
    refine (bytes10 _).mono ?_
    rintro r V1 ⟨rfl, hb⟩
    have hst1 := hst0.step hb
    refine hK.out _ _ (fun _ => hst1.s) (fun hHeld => ?_)
    have hHeld := hHeld (by decide)
    clear hK K
    try simp only [Act.put, List.setIfInBounds_toArray, List.set_cons_zero, List.set_cons_succ, List.getElem_toArray, List.getElem_cons_succ, List.getElem_cons_zero]
    refine wpAnyZ_ready (rs := [6]) (by kernel_rfl) (by simp) ?_
    refine AllReadyZ.cons rfl (fun K hK => ?_) AllReadyZ.nil
    go_simp
    refine (pieces26 _).mono ?_
    rintro r V2 ⟨rfl, rfl⟩
    have hst2 := hst1
    refine hK.out _ _ (fun _ => hst2.s) (fun hHeld => ?_)
    have hHeld := hHeld (by decide)
    clear hK K
    try simp only [Act.put, List.setIfInBounds_toArray, List.set_cons_zero, List.set_cons_succ, List.getElem_toArray, List.getElem_cons_succ, List.getElem_cons_zero]
    refine wpAnyZ_ready (rs := [10]) (by kernel_rfl) (by simp) ?_
    refine AllReadyZ.cons rfl (fun K hK => ?_) AllReadyZ.nil
    go_simp
    refine (bytes11 _).mono ?_
    rintro r V3 ⟨rfl, hb⟩
    have hst3 := hst2.step hb
    refine hK.out _ _ (fun _ => hst3.s) (fun hHeld => ?_)
    have hHeld := hHeld (by decide)
    clear hK K
    try simp only [Act.put, List.setIfInBounds_toArray, List.set_cons_zero, List.set_cons_succ, List.getElem_toArray, List.getElem_cons_succ, List.getElem_cons_zero]
    refine wpAnyZ_ready (rs := [12]) (by kernel_rfl) (by simp) ?_
    refine AllReadyZ.cons rfl (fun K hK => ?_) AllReadyZ.nil
    go_simp
    refine (pieces26 _).mono ?_
    rintro r V4 ⟨rfl, rfl⟩
    have hst4 := hst3
    refine hK.out _ _ (fun _ => hst4.s) (fun hHeld => ?_)
    have hHeld := hHeld (by decide)
    clear hK K
    try simp only [Act.put, List.setIfInBounds_toArray, List.set_cons_zero, List.set_cons_succ, List.getElem_toArray, List.getElem_cons_succ, List.getElem_cons_zero]
    refine wpAnyZ_take (i := 13) (v := (.int .i64 2)) rfl (by kernel_rfl) (by kernel_rfl) (by kernel_rfl) (by kernel_rfl) (fun _ _ _ h => h) (Or.inl ⟨by rfl, ?_⟩) (by assumption) ?_
    · intro w9 hSw
      go_simp; all_goals (try rfl)
    try simp only [Act.put, List.setIfInBounds_toArray, List.set_cons_zero, List.set_cons_succ, List.getElem_toArray, List.getElem_cons_succ, List.getElem_cons_zero]
    refine wpAnyZ_take (i := 14) (v := (.int .i64 1)) rfl (by kernel_rfl) (by kernel_rfl) (by kernel_rfl) (by kernel_rfl) (fun _ _ _ h => h) (Or.inl ⟨by rfl, ?_⟩) (by assumption) ?_
    · intro w9 hSw
      go_simp; all_goals (try rfl)
    try simp only [Act.put, List.setIfInBounds_toArray, List.set_cons_zero, List.set_cons_succ, List.getElem_toArray, List.getElem_cons_succ, List.getElem_cons_zero]
    refine wpAnyZ_take (i := 15) (v := (.int .i64 1)) rfl (by kernel_rfl) (by kernel_rfl) (by kernel_rfl) (by kernel_rfl) (fun _ _ _ h => h) (Or.inl ⟨by rfl, ?_⟩) (by assumption) ?_
    · intro w9 hSw
      go_simp; all_goals (try rfl)
    try simp only [Act.put, List.setIfInBounds_toArray, List.set_cons_zero, List.set_cons_succ, List.getElem_toArray, List.getElem_cons_succ, List.getElem_cons_zero]
    refine wpAnyZ_ready (rs := [16]) (by kernel_rfl) (by simp) ?_
    refine AllReadyZ.cons rfl (fun K hK => ?_) AllReadyZ.nil
    have q6 := hst4.c6
    have qf := hst4.f6
    go_simp
    refine hK.out _ _ (fun h => absurd rfl h) (fun _ => ?_)
    clear hK K
    try simp only [Act.put, List.setIfInBounds_toArray, List.set_cons_zero, List.set_cons_succ, List.getElem_toArray, List.getElem_cons_succ, List.getElem_cons_zero]
    refine wpAnyZ_done (by kernel_rfl) ?_ _
    have hBW := (hst4.bel.mono hB2.size).setCell (p := ⟨w.heap.size + 1, 0, none⟩) (by simp) (.int .i64 1)
    have hKF := (KeepsFrom.mk (B := W1.heap.size) hst4.bel.size (fun k o _ h0 _ => (hst4.bel.block k (Array.getElem?_eq_some_iff.1 h0).1).trans h0)).trans ((KeepsOthers.setCell V3 ⟨w.heap.size + 1, 0, none⟩ (.int .i64 1)).from _)
    have bA3 : Boxed V3 w.heap.size 3 (.int .i64 0) := (hst4.bel.block _ bA2.lt).trans bA2
    have bM3 : Boxed V3 (w.heap.size + 1 + 1) 3 (.int .i64 6) := (hst4.bel.block _ bM2.lt).trans bM2
    have bR4 : Boxed V3 (w.heap.size + 1) 3 (.int .i64 0) := (hst4.bel.block _ bR3.lt).trans bR3
    exact ⟨hKF, hBW, ⟨⟨bA3.other (by omega) _, bM3.other (by omega) _⟩, bR4.set _⟩, hB2.trans hBW⟩
  case done =>
    rintro D ys W hD rfl ⟨⟨⟨bA2, bM2⟩, bR2⟩, hB2⟩ hK
    have hc2 := bR2.cell
    have hf2 := bR2.frozen
    gi_wp2_with (fail)
    have hK2 := (KeepsOthers.setCell W ⟨w.heap.size + 1, 0, none⟩ (.int .i64 1)).same D _ hK rfl
    refine ⟨by simp, .inl ⟨_, _, rfl, run_takeDeferred hK2, ?_⟩⟩
    have hc5 : (W.setCell ⟨w.heap.size + 1, 0, none⟩ (.int .i64 1)).cell? ⟨w.heap.size + 1, 0, none⟩ = some (.int .i64 1) := World.cell?_setCell_same' _ _ _ (by rw [hc2]; rfl)
    have hc6 := cell_kept hc5 (grownBy_putObj' _ D (.deferred none)) (fun r e => by cases e; exact ⟨_, hK2, rfl⟩)
    refine ⟨.int .i64 1, ?_, rfl, hB2.trans (((Below.refl w.heap.size W).setCell (p := ⟨w.heap.size + 1, 0, none⟩) (by simp) _).trans (belowK_b (w := w) (n₀ := w.heap.size) (Nat.le_refl _) _ D _ _ (by omega) hK2 rfl rfl))⟩
    simp only [results, show Try.f24.results = #[.cell 6 3] from rfl]
    generalize (W.setCell ⟨w.heap.size + 1, 0, none⟩ (.int .i64 1)).putObj D (.deferred none) = Wf at hc6 ⊢
    go_simp
  case stop =>
    rintro D c pre W _ _ h _
    exact h.elim
end Go.Proofs.Ytogdbccfkbbcaaa
