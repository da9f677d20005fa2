/- The walks of the reference's cursor: numbers. -/
import Derived.Test.YtogdbccfkbbcaaaRefCu
namespace Go.Proofs.Ytogdbccfkbbcaaa
open Go.RowKit
set_option linter.unusedSimpArgs false
variable {D : Nat}
set_option maxHeartbeats 4000000 in
set_option maxRecDepth 100000 in
theorem rread_num (p most : Nat) (l : List UInt8) (w : World) (hc : RCur w D p 0 l) :
    Calls Try.prog 40 #[.pointer (some ⟨p, 0, none⟩), .agg #[.int .i64 0, .int .u64 (most : Int), .int .u8 0, .int .u8 0, .int .u8 0, .int .u8 0, .int .u8 0, .int .u8 0, .int .u8 0, .int .u8 0, .int .u8 0, (.slice none 0 0), .int .i64 0]] w fun e w' => e = .returned (.agg #[.int .i64 0, .int .u64 ((numR most 0 l).1 : Int), .int .u8 0, .int .u8 0, .int .u8 0, .int .u8 0, .int .u8 0, .int .u8 0, .int .u8 0, .int .u8 0, .int .u8 0, (.slice none 0 0), .int .i64 0]) ∧ RCur w' D p (numR most 0 l).2.1 (numR most 0 l).2.2 ∧ w.grownBy w' (some p) := by
  have hnz := numR_zero most l
  have hcal := fun (A : Option Addr) (n c : Nat) (hn : l.length = n) (hnc : n ≤ c) (W : World) (hl : n ≤ 9223372036854775807) (hr : Rd B8 W (fun b => b < D) A l) => rnum_calls most A l n c hn hnc _ W hl hr
  obtain ⟨X, E, l', hN⟩ : ∃ X E l', numR most 0 l = (X, E, l') := ⟨_, _, _, rfl⟩
  have hl' : l'.length ≤ l.length := by
    have h := hN
    unfold numR at h
    rw [if_neg (by omega)] at h
    split at h
    · injection h with _ h; injection h with _ h; rw [← h]; simp
    · split at h
      · injection h with _ h; injection h with _ h; rw [← h]; simp
      · injection h with _ h; injection h with _ h; rw [← h]; simp
  have hle : E ≠ 0 → l' = [] := by
    have h := hN
    unfold numR at h
    rw [if_neg (by omega)] at h
    split at h
    · injection h with _ h; injection h with _ h; intro _; exact h.symm
    · split at h
      · injection h with _ h; injection h with _ h; intro _; exact h.symm
      · injection h with _ h; injection h with h _; intro h2; exact absurd h.symm h2
  rw [hN] at hcal hnz ⊢
  dsimp only at hcal hnz ⊢
  clear hN
  have hc1 := hc.below (below_three w (.cells #[.int .i64 0, .int .u64 (most : Int), .int .u8 0, .int .u8 0, .int .u8 0, .int .u8 0, .int .u8 0, .int .u8 0, .int .u8 0, .int .u8 0, .int .u8 0, (.slice none 0 0), .int .i64 0] 71) (.cells #[.int .i64 0, .int .u64 0, .int .u8 0, .int .u8 0, .int .u8 0, .int .u8 0, .int .u8 0, .int .u8 0, .int .u8 0, .int .u8 0, .int .u8 0, (.slice none 0 0), .int .i64 0] 71) (.cells #[.int .i64 0, .int .u64 0, .int .u8 0, .int .u8 0, .int .u8 0, .int .u8 0, .int .u8 0, .int .u8 0, .int .u8 0, .int .u8 0, .int .u8 0, (.slice none 0 0), .int .i64 0] 71))
  have HG := Lib.hid (grown_three w (.cells #[.int .i64 0, .int .u64 (most : Int), .int .u8 0, .int .u8 0, .int .u8 0, .int .u8 0, .int .u8 0, .int .u8 0, .int .u8 0, .int .u8 0, .int .u8 0, (.slice none 0 0), .int .i64 0] 71) (.cells #[.int .i64 0, .int .u64 0, .int .u8 0, .int .u8 0, .int .u8 0, .int .u8 0, .int .u8 0, .int .u8 0, .int .u8 0, .int .u8 0, .int .u8 0, (.slice none 0 0), .int .i64 0] 71) (.cells #[.int .i64 0, .int .u64 0, .int .u8 0, .int .u8 0, .int .u8 0, .int .u8 0, .int .u8 0, .int .u8 0, .int .u8 0, .int .u8 0, .int .u8 0, (.slice none 0 0), .int .i64 0] 71) (some p))
  have hbm := blk_mid w (.cells #[.int .i64 0, .int .u64 (most : Int), .int .u8 0, .int .u8 0, .int .u8 0, .int .u8 0, .int .u8 0, .int .u8 0, .int .u8 0, .int .u8 0, .int .u8 0, (.slice none 0 0), .int .i64 0] 71) (.cells #[.int .i64 0, .int .u64 0, .int .u8 0, .int .u8 0, .int .u8 0, .int .u8 0, .int .u8 0, .int .u8 0, .int .u8 0, .int .u8 0, .int .u8 0, (.slice none 0 0), .int .i64 0] 71) (.cells #[.int .i64 0, .int .u64 0, .int .u8 0, .int .u8 0, .int .u8 0, .int .u8 0, .int .u8 0, .int .u8 0, .int .u8 0, .int .u8 0, .int .u8 0, (.slice none 0 0), .int .i64 0] 71) _ _ rfl
  have hbf := blk_first w (.cells #[.int .i64 0, .int .u64 (most : Int), .int .u8 0, .int .u8 0, .int .u8 0, .int .u8 0, .int .u8 0, .int .u8 0, .int .u8 0, .int .u8 0, .int .u8 0, (.slice none 0 0), .int .i64 0] 71) (.cells #[.int .i64 0, .int .u64 0, .int .u8 0, .int .u8 0, .int .u8 0, .int .u8 0, .int .u8 0, .int .u8 0, .int .u8 0, .int .u8 0, .int .u8 0, (.slice none 0 0), .int .i64 0] 71) (.cells #[.int .i64 0, .int .u64 0, .int .u8 0, .int .u8 0, .int .u8 0, .int .u8 0, .int .u8 0, .int .u8 0, .int .u8 0, .int .u8 0, .int .u8 0, (.slice none 0 0), .int .i64 0] 71) _ _ rfl
  have hbl := blk_last w (.cells #[.int .i64 0, .int .u64 (most : Int), .int .u8 0, .int .u8 0, .int .u8 0, .int .u8 0, .int .u8 0, .int .u8 0, .int .u8 0, .int .u8 0, .int .u8 0, (.slice none 0 0), .int .i64 0] 71) (.cells #[.int .i64 0, .int .u64 0, .int .u8 0, .int .u8 0, .int .u8 0, .int .u8 0, .int .u8 0, .int .u8 0, .int .u8 0, .int .u8 0, .int .u8 0, (.slice none 0 0), .int .i64 0] 71) (.cells #[.int .i64 0, .int .u64 0, .int .u8 0, .int .u8 0, .int .u8 0, .int .u8 0, .int .u8 0, .int .u8 0, .int .u8 0, .int .u8 0, .int .u8 0, (.slice none 0 0), .int .i64 0] 71) _ _ rfl
  have hpl := hc.lt
  have hDp := hc.low
  obtain ⟨A, c, y0, y1, f0, f1, hlc, hlm, HR⟩ := hc1.cells
  obtain ⟨m, hm⟩ : ∃ m, l.length = m := ⟨_, rfl⟩
  rw [hm] at y0 hlc hlm
  have HM := Lib.hid hm
  have x0 := hbf.cell 0
  have x1 := hbf.cell 1
  have x12 := hbf.cell 12
  simp at x0 x1 x12 y1
  have HC := Lib.hid hc1
  have hsz : (((w.alloc (.cells #[.int .i64 0, .int .u64 (most : Int), .int .u8 0, .int .u8 0, .int .u8 0, .int .u8 0, .int .u8 0, .int .u8 0, .int .u8 0, .int .u8 0, .int .u8 0, (.slice none 0 0), .int .i64 0] 71)).alloc (.cells #[.int .i64 0, .int .u64 0, .int .u8 0, .int .u8 0, .int .u8 0, .int .u8 0, .int .u8 0, .int .u8 0, .int .u8 0, .int .u8 0, .int .u8 0, (.slice none 0 0), .int .i64 0] 71)).alloc (.cells #[.int .i64 0, .int .u64 0, .int .u8 0, .int .u8 0, .int .u8 0, .int .u8 0, .int .u8 0, .int .u8 0, .int .u8 0, .int .u8 0, .int .u8 0, (.slice none 0 0), .int .i64 0] 71)).heap.size = w.heap.size + 3 := by simp
  clear hc hc1 hbf hm
  go_enter Try.func40, Try.ntmps40
  go_upto_region 2 with (fail)
  generalize ((w.alloc (.cells #[.int .i64 0, .int .u64 (most : Int), .int .u8 0, .int .u8 0, .int .u8 0, .int .u8 0, .int .u8 0, .int .u8 0, .int .u8 0, .int .u8 0, .int .u8 0, (.slice none 0 0), .int .i64 0] 71)).alloc (.cells #[.int .i64 0, .int .u64 0, .int .u8 0, .int .u8 0, .int .u8 0, .int .u8 0, .int .u8 0, .int .u8 0, .int .u8 0, .int .u8 0, .int .u8 0, (.slice none 0 0), .int .i64 0] 71)).alloc (.cells #[.int .i64 0, .int .u64 0, .int .u8 0, .int .u8 0, .int .u8 0, .int .u8 0, .int .u8 0, .int .u8 0, .int .u8 0, .int .u8 0, .int .u8 0, (.slice none 0 0), .int .i64 0] 71) = W0 at HG hbm hbl HC HR y0 y1 f0 f1 x0 x1 x12 hsz ⊢
  rw [HM.out] at hl'
  have HCal := Lib.hid (hcal A m c HM.out hlc W0.drew (by omega) HR.out)
  clear hcal
  have q1 : W0.drew.frozen? ⟨w.heap.size + 1 + 1, 1, none⟩ = false := hbl.frozen 1
  have q1c : W0.drew.cell? ⟨w.heap.size + 1 + 1, 1, none⟩ = some (.int .u64 0) := hbl.cell 1
  have k0 : W0.drew.cell? ⟨p, 0, none⟩ = some (.slice A m c) := y0
  have k1 : W0.drew.cell? ⟨w.heap.size, 1, none⟩ = some (.int .u64 (most : Int)) := x1
  go_upto_region 13 with (fail)
  go_region_held3 (fun w' => w'.cell? ⟨p, 0, none⟩ = some (.slice A m c) ∧ w'.cell? ⟨w.heap.size, 1, none⟩ = some (.int .u64 (most : Int))) (first | exact ⟨k0, k1⟩ | exact ⟨k0', k1'⟩ | exact ⟨k0'', k1''⟩)
    (first | (go_at_call 77; refine HCal.out.mono ?_; rintro r W1 ⟨A1, n1, c1, X1, rfl, hh, kk, rfl⟩
              have HH : Hid (E = 0 → X1 = X ∧ n1 = l'.length ∧ n1 ≤ c1 ∧ Rd B8 (W0.drew.drewN kk) (fun b => b < D) A1 l') := hh
              have k0' : (W0.drew.drewN kk).cell? ⟨p, 0, none⟩ = some (.slice A m c) := y0
              have k1' : (W0.drew.drewN kk).cell? ⟨w.heap.size, 1, none⟩ = some (.int .u64 (most : Int)) := x1
              have q1' : (W0.drew.drewN kk).frozen? ⟨w.heap.size + 1 + 1, 1, none⟩ = false := hbl.frozen 1
              have q1c' : (W0.drew.drewN kk).cell? ⟨w.heap.size + 1 + 1, 1, none⟩ = some (.int .u64 0) := hbl.cell 1
              have hbl' : Hid (Blk (W0.drew.drewN kk) (w.heap.size + 1 + 1) 71 #[.int .i64 0, .int .u64 0, .int .u8 0, .int .u8 0, .int .u8 0, .int .u8 0, .int .u8 0, .int .u8 0, .int .u8 0, .int .u8 0, .int .u8 0, (.slice none 0 0), .int .i64 0]) := hbl
              have hbm' : Hid (Blk (W0.drew.drewN kk) (w.heap.size + 1) 71 #[.int .i64 0, .int .u64 0, .int .u8 0, .int .u8 0, .int .u8 0, .int .u8 0, .int .u8 0, .int .u8 0, .int .u8 0, .int .u8 0, .int .u8 0, (.slice none 0 0), .int .i64 0]) := hbm
              have HC' : Hid (RCur (W0.drew.drewN kk) D p 0 l) := HC
              have HG' : Hid (w.grownBy (W0.drew.drewN kk) (some p)) := grown_drewN (grown_drewN HG.out 1) kk
              have x0' : (W0.drew.drewN kk).cell? ⟨w.heap.size, 0, none⟩ = some (.int .i64 0) := x0
              have hs' : (W0.drew.drewN kk).heap.size = w.heap.size + 3 := hsz
              clear hh HCal
              generalize W0.drew.drewN kk = W2 at HH k0' k1' q1' q1c' hbl' hbm' HC' HG' x0' hs' ⊢
              have k0'' : (W2.setCell ⟨w.heap.size + 1 + 1, 1, none⟩ (.int .u64 (X1 : Int))).cell? ⟨p, 0, none⟩ = some (.slice A m c) := by rw [World.cell?_setCell_far _ _ _ _ (by simp; omega)]; exact k0'
              have k1'' : (W2.setCell ⟨w.heap.size + 1 + 1, 1, none⟩ (.int .u64 (X1 : Int))).cell? ⟨w.heap.size, 1, none⟩ = some (.int .u64 (most : Int)) := by rw [World.cell?_setCell_far _ _ _ _ (by simp; omega)]; exact k1'))
  clear k0 k1 q1 q1c y0 y1 f0 f1 x0 x1 x12 hbm hbl HC HR HG hsz q1' q1c' k0' k1' k1''
  have hbm3 : Blk (W2.setCell ⟨w.heap.size + 1 + 1, 1, none⟩ (.int .u64 (X1 : Int))) (w.heap.size + 1) 71 #[.int .i64 0, .int .u64 0, .int .u8 0, .int .u8 0, .int .u8 0, .int .u8 0, .int .u8 0, .int .u8 0, .int .u8 0, .int .u8 0, .int .u8 0, (.slice none 0 0), .int .i64 0] := hbm'.out.far (by simp) _
  have hbl3 : Blk (W2.setCell ⟨w.heap.size + 1 + 1, 1, none⟩ (.int .u64 (X1 : Int))) (w.heap.size + 1 + 1) 71 #[.int .i64 0, .int .u64 (X1 : Int), .int .u8 0, .int .u8 0, .int .u8 0, .int .u8 0, .int .u8 0, .int .u8 0, .int .u8 0, .int .u8 0, .int .u8 0, (.slice none 0 0), .int .i64 0] := hbl'.out.set_ 1 _
  have HC3 : Hid (RCur (W2.setCell ⟨w.heap.size + 1 + 1, 1, none⟩ (.int .u64 (X1 : Int))) D p 0 l) := HC'.out.far (a := ⟨w.heap.size + 1 + 1, 1, none⟩) (by simp; omega) (by simp; omega) _
  have HG3 : Hid (w.grownBy (W2.setCell ⟨w.heap.size + 1 + 1, 1, none⟩ (.int .u64 (X1 : Int))) (some p)) := grown_set HG'.out ⟨w.heap.size + 1 + 1, 1, none⟩ _ (.inr (by simp; omega))
  have HH3 : Hid (E = 0 → X1 = X ∧ n1 = l'.length ∧ n1 ≤ c1 ∧ Rd B8 (W2.setCell ⟨w.heap.size + 1 + 1, 1, none⟩ (.int .u64 (X1 : Int))) (fun b => b < D) A1 l') := fun h => ⟨(HH.out h).1, (HH.out h).2.1, (HH.out h).2.2.1, (HH.out h).2.2.2.far (fun b hb => by simp; omega) _⟩
  have g9 : (W2.setCell ⟨w.heap.size + 1 + 1, 1, none⟩ (.int .u64 (X1 : Int))).cell? ⟨w.heap.size, 0, none⟩ = some (.int .i64 0) := by rw [World.cell?_setCell_far _ _ _ _ (by simp; omega)]; exact x0'
  clear hbm' hbl' HC' HG' HH hs' k0'' x0'
  generalize (W2.setCell ⟨w.heap.size + 1 + 1, 1, none⟩ (.int .u64 (X1 : Int))) = W3 at *
  by_cases hE : E = 0
  · subst hE
    obtain ⟨rfl, rfl, hn1, hr3⟩ := HH3.out rfl
    have hn1' : l'.length = l'.length := rfl
    have hn6 : l'.length ≤ 1000000 := by omega
    obtain ⟨n1, hn1q⟩ : ∃ n1, l'.length = n1 := ⟨_, rfl⟩
    rw [hn1q] at hn1 hn6 ⊢
    have hn1' := hn1q
    have ht : (((0 : Nat) : Int) != 0) = false := by simp
    clear hn1q HH3
    have hbm2 := Lib.hid (hbm3.far (p := ⟨p, 0, none⟩) (by simp; omega) (.slice A1 n1 c1))
    have hbl2 := Lib.hid (hbl3.far (p := ⟨p, 0, none⟩) (by simp; omega) (.slice A1 n1 c1))
    have HE := Lib.hid (rread_end #[.int .i64 0, .int .u64 (X1 : Int), .int .u8 0, .int .u8 0, .int .u8 0, .int .u8 0, .int .u8 0, .int .u8 0, .int .u8 0, .int .u8 0, .int .u8 0, (.slice none 0 0), .int .i64 0] hpl (HC3.out.rest hn1' hn1 hn6 hr3) (grown_set HG3.out ⟨p, 0, none⟩ (.slice A1 n1 c1) (.inl rfl)) hbm2.out)
    obtain ⟨_, _, g0, _, g1, g2, _⟩ := HC3.out.cells
    clear hbm3 hbl3 hr3
    go_upto_region 34 with (fail)
    refine wp_region_lit ?_
    refine wpList_load_row rfl 71 (.tmp 5) rfl (w.heap.size + 1 + 1) rfl 71 #[.int .i64 0, .int .u64 (X1 : Int), .int .u8 0, .int .u8 0, .int .u8 0, .int .u8 0, .int .u8 0, .int .u8 0, .int .u8 0, .int .u8 0, .int .u8 0, (.slice none 0 0), .int .i64 0] (0, 0) _ hbl2.out Try.underlying71 rfl info_pc ?_
    refine wpList_store_row rfl 71 (.tmp 4) (.tmp 160) rfl (w.heap.size + 1) #[.int .i64 0, .int .u64 (X1 : Int), .int .u8 0, .int .u8 0, .int .u8 0, .int .u8 0, .int .u8 0, .int .u8 0, .int .u8 0, .int .u8 0, .int .u8 0, (.slice none 0 0), .int .i64 0] rfl rfl 71 _ hbm2.out info_pc rfl (pc_one _ _ _ _ _ _ _) ?_
    go_wp2
    exact bodyPost_ret (results_cell_row rfl _ _ (w.heap.size + 1) 71 _ (0, 0) _ rfl HE.out.2.2 Try.underlying71 rfl info_pc) rfl ⟨rfl, HE.out.1, HE.out.2.1⟩
  · have ht : ((E : Int) != 0) = true := by simp; omega
    obtain rfl : X = 0 := hnz hE
    obtain rfl : l' = [] := hle hE
    clear HH3 hnz hle hbl3
    have hbm2 := Lib.hid ((hbm3.far (p := ⟨p, 0, none⟩) (by simp; omega) (.slice none 0 0)).far (p := ⟨p, 1, none⟩) (by simp; omega) (.int .i64 (E : Int)))
    have HE := Lib.hid (rread_end #[.int .i64 0, .int .u64 0, .int .u8 0, .int .u8 0, .int .u8 0, .int .u8 0, .int .u8 0, .int .u8 0, .int .u8 0, .int .u8 0, .int .u8 0, (.slice none 0 0), .int .i64 0] hpl (HC3.out.err E E rfl) (grown_set (grown_set HG3.out ⟨p, 0, none⟩ (.slice none 0 0) (.inl rfl)) ⟨p, 1, none⟩ (.int .i64 (E : Int)) (.inl rfl)) hbm2.out)
    obtain ⟨_, _, g0, g0b, g1, g2, _⟩ := HC3.out.cells
    clear hbm3
    go_upto_region 32 with (fail)
    refine wp_region_lit ?_
    iterate 3 (refine wpList_plain rfl fun K hK => ?_; go_simp; refine hK _ _ ?_; clear hK K)
    refine wpList_store_row rfl 71 (.tmp 4) (.tmp 155) rfl (w.heap.size + 1) #[.int .i64 0, .int .u64 0, .int .u8 0, .int .u8 0, .int .u8 0, .int .u8 0, .int .u8 0, .int .u8 0, .int .u8 0, .int .u8 0, .int .u8 0, (.slice none 0 0), .int .i64 0] rfl rfl 71 _ hbm2.out info_pc rfl (pc_one _ _ _ _ _ _ _) ?_
    go_wp2
    exact bodyPost_ret (results_cell_row rfl _ _ (w.heap.size + 1) 71 _ (0, 0) _ rfl HE.out.2.2 Try.underlying71 rfl info_pc) rfl ⟨rfl, HE.out.1, HE.out.2.1⟩
end Go.Proofs.Ytogdbccfkbbcaaa
