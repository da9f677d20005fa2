/- The walks of the reference's cursor: bytes. -/
import Derived.Test.YtogdbccfkbbcaaaRefCu
namespace Go.Proofs.Ytogdbccfkbbcaaa
open Go.RowKit
set_option linter.unusedSimpArgs false
variable {D : Nat}
set_option maxHeartbeats 4000000 in
set_option maxRecDepth 100000 in
theorem rread_bytes (p most : Nat) (l : List UInt8) (w : World) (hmo : most ≤ 1000000) (hc : RCur w D p 0 l) :
    Calls Try.prog 40 #[.pointer (some ⟨p, 0, none⟩), .agg #[.int .i64 3, .int .u64 0, .int .u8 0, .int .u8 0, .int .u8 0, .int .u8 0, .int .u8 0, .int .u8 0, .int .u8 0, .int .u8 0, .int .u8 0, (.slice none 0 0), .int .i64 (most : Int)]] w fun e w' => ∃ A' c', e = .returned (.agg #[.int .i64 3, .int .u64 0, .int .u8 0, .int .u8 0, .int .u8 0, .int .u8 0, .int .u8 0, .int .u8 0, .int .u8 0, .int .u8 0, .int .u8 0, (.slice A' (bytesR most 0 l).1.length c'), .int .i64 0]) ∧ (bytesR most 0 l).1.length ≤ c' ∧
      Rd B8 w' (fun b => b < D) A' (bytesR most 0 l).1 ∧ RCur w' D p (bytesR most 0 l).2.1 (bytesR most 0 l).2.2 ∧ w.grownBy w' (some p) := by
  have hXm := numR_le most l
  have hcal := fun (A : Option Addr) (n c : Nat) (hn : l.length = n) (hnc : n ≤ c) (W : World) (hl : n ≤ 9223372036854775807) (hr : Rd B8 W (fun b => b < D) A l) => rnum_calls most A l n c hn hnc _ W hl hr
  obtain ⟨X, E, l', hN⟩ : ∃ X E l', numR most 0 l = (X, E, l') := ⟨_, _, _, rfl⟩
  have hl' : l'.length ≤ l.length ∧ (E ≠ 0 → l' = []) := by
    have h := hN
    unfold numR at h
    rw [if_neg (by omega)] at h
    split at h
    · injection h with _ h; injection h with _ h; rw [← h]; simp
    · split at h
      · injection h with _ h; injection h with _ h; rw [← h]; simp
      · injection h with _ h; injection h with h2 h; rw [← h, ← h2]; simp
  have hB : bytesR most 0 l = if E ≠ 0 then ([], E, l') else if l'.length < X then ([], 4, []) else (l'.take X, 0, l'.drop X) := by
    unfold bytesR
    rw [hN]
  obtain ⟨v, e2, l2, hv⟩ : ∃ v e2 l2, bytesR most 0 l = (v, e2, l2) := ⟨_, _, _, rfl⟩
  rw [hv] at hB ⊢
  have F := Lib.hid hB
  clear hv
  dsimp only
  rw [hN] at hcal hXm
  dsimp only at hcal hXm
  obtain ⟨hl', hle⟩ := hl'
  clear hN hB
  have hc1 := hc.below (below_three w (.cells #[.int .i64 3, .int .u64 0, .int .u8 0, .int .u8 0, .int .u8 0, .int .u8 0, .int .u8 0, .int .u8 0, .int .u8 0, .int .u8 0, .int .u8 0, (.slice none 0 0), .int .i64 (most : Int)] 71) (.cells #[.int .i64 0, .int .u64 0, .int .u8 0, .int .u8 0, .int .u8 0, .int .u8 0, .int .u8 0, .int .u8 0, .int .u8 0, .int .u8 0, .int .u8 0, (.slice none 0 0), .int .i64 0] 71) (.cells #[.int .i64 3, .int .u64 0, .int .u8 0, .int .u8 0, .int .u8 0, .int .u8 0, .int .u8 0, .int .u8 0, .int .u8 0, .int .u8 0, .int .u8 0, (.slice none 0 0), .int .i64 0] 71))
  have HG := Lib.hid (grown_three w (.cells #[.int .i64 3, .int .u64 0, .int .u8 0, .int .u8 0, .int .u8 0, .int .u8 0, .int .u8 0, .int .u8 0, .int .u8 0, .int .u8 0, .int .u8 0, (.slice none 0 0), .int .i64 (most : Int)] 71) (.cells #[.int .i64 0, .int .u64 0, .int .u8 0, .int .u8 0, .int .u8 0, .int .u8 0, .int .u8 0, .int .u8 0, .int .u8 0, .int .u8 0, .int .u8 0, (.slice none 0 0), .int .i64 0] 71) (.cells #[.int .i64 3, .int .u64 0, .int .u8 0, .int .u8 0, .int .u8 0, .int .u8 0, .int .u8 0, .int .u8 0, .int .u8 0, .int .u8 0, .int .u8 0, (.slice none 0 0), .int .i64 0] 71) (some p))
  have hbm := blk_mid w (.cells #[.int .i64 3, .int .u64 0, .int .u8 0, .int .u8 0, .int .u8 0, .int .u8 0, .int .u8 0, .int .u8 0, .int .u8 0, .int .u8 0, .int .u8 0, (.slice none 0 0), .int .i64 (most : Int)] 71) (.cells #[.int .i64 0, .int .u64 0, .int .u8 0, .int .u8 0, .int .u8 0, .int .u8 0, .int .u8 0, .int .u8 0, .int .u8 0, .int .u8 0, .int .u8 0, (.slice none 0 0), .int .i64 0] 71) (.cells #[.int .i64 3, .int .u64 0, .int .u8 0, .int .u8 0, .int .u8 0, .int .u8 0, .int .u8 0, .int .u8 0, .int .u8 0, .int .u8 0, .int .u8 0, (.slice none 0 0), .int .i64 0] 71) _ _ rfl
  have hbf := blk_first w (.cells #[.int .i64 3, .int .u64 0, .int .u8 0, .int .u8 0, .int .u8 0, .int .u8 0, .int .u8 0, .int .u8 0, .int .u8 0, .int .u8 0, .int .u8 0, (.slice none 0 0), .int .i64 (most : Int)] 71) (.cells #[.int .i64 0, .int .u64 0, .int .u8 0, .int .u8 0, .int .u8 0, .int .u8 0, .int .u8 0, .int .u8 0, .int .u8 0, .int .u8 0, .int .u8 0, (.slice none 0 0), .int .i64 0] 71) (.cells #[.int .i64 3, .int .u64 0, .int .u8 0, .int .u8 0, .int .u8 0, .int .u8 0, .int .u8 0, .int .u8 0, .int .u8 0, .int .u8 0, .int .u8 0, (.slice none 0 0), .int .i64 0] 71) _ _ rfl
  have hbl := blk_last w (.cells #[.int .i64 3, .int .u64 0, .int .u8 0, .int .u8 0, .int .u8 0, .int .u8 0, .int .u8 0, .int .u8 0, .int .u8 0, .int .u8 0, .int .u8 0, (.slice none 0 0), .int .i64 (most : Int)] 71) (.cells #[.int .i64 0, .int .u64 0, .int .u8 0, .int .u8 0, .int .u8 0, .int .u8 0, .int .u8 0, .int .u8 0, .int .u8 0, .int .u8 0, .int .u8 0, (.slice none 0 0), .int .i64 0] 71) (.cells #[.int .i64 3, .int .u64 0, .int .u8 0, .int .u8 0, .int .u8 0, .int .u8 0, .int .u8 0, .int .u8 0, .int .u8 0, .int .u8 0, .int .u8 0, (.slice none 0 0), .int .i64 0] 71) _ _ rfl
  have hpl := hc.lt
  have hDp := hc.low
  obtain ⟨A, c, y0, y1, f0, f1, hlc, hlm, HR⟩ := hc1.cells
  obtain ⟨m, hm⟩ : ∃ m, l.length = m := ⟨_, rfl⟩
  rw [hm] at y0 hlc hlm
  have HM := Lib.hid hm
  have x0 := hbf.cell 0
  have x12 := hbf.cell 12
  simp at x0 x12 y1
  have HC := Lib.hid hc1
  have hsz : (((w.alloc (.cells #[.int .i64 3, .int .u64 0, .int .u8 0, .int .u8 0, .int .u8 0, .int .u8 0, .int .u8 0, .int .u8 0, .int .u8 0, .int .u8 0, .int .u8 0, (.slice none 0 0), .int .i64 (most : Int)] 71)).alloc (.cells #[.int .i64 0, .int .u64 0, .int .u8 0, .int .u8 0, .int .u8 0, .int .u8 0, .int .u8 0, .int .u8 0, .int .u8 0, .int .u8 0, .int .u8 0, (.slice none 0 0), .int .i64 0] 71)).alloc (.cells #[.int .i64 3, .int .u64 0, .int .u8 0, .int .u8 0, .int .u8 0, .int .u8 0, .int .u8 0, .int .u8 0, .int .u8 0, .int .u8 0, .int .u8 0, (.slice none 0 0), .int .i64 0] 71)).heap.size = w.heap.size + 3 := by simp
  clear hc hc1 hbf hm
  go_enter Try.func40, Try.ntmps40
  go_upto_region 2 with (fail)
  generalize ((w.alloc (.cells #[.int .i64 3, .int .u64 0, .int .u8 0, .int .u8 0, .int .u8 0, .int .u8 0, .int .u8 0, .int .u8 0, .int .u8 0, .int .u8 0, .int .u8 0, (.slice none 0 0), .int .i64 (most : Int)] 71)).alloc (.cells #[.int .i64 0, .int .u64 0, .int .u8 0, .int .u8 0, .int .u8 0, .int .u8 0, .int .u8 0, .int .u8 0, .int .u8 0, .int .u8 0, .int .u8 0, (.slice none 0 0), .int .i64 0] 71)).alloc (.cells #[.int .i64 3, .int .u64 0, .int .u8 0, .int .u8 0, .int .u8 0, .int .u8 0, .int .u8 0, .int .u8 0, .int .u8 0, .int .u8 0, .int .u8 0, (.slice none 0 0), .int .i64 0] 71) = W0 at HG hbm hbl HC HR y0 y1 f0 f1 x0 x12 hsz ⊢
  rw [HM.out] at hl'
  have HCal := Lib.hid (hcal A m c HM.out hlc W0.drew (by omega) HR.out)
  clear hcal
  have wm : IntKind.u64.wrap (most : Int) = (most : Int) := wrap_u64_nat _ (by omega)
  have hmx : max (most : Int) 0 = (most : Int) := by omega
  have k0 : W0.drew.cell? ⟨p, 0, none⟩ = some (.slice A m c) := y0
  have k1 : W0.drew.cell? ⟨w.heap.size, 12, none⟩ = some (.int .i64 (most : Int)) := x12
  go_upto_region 6 with (fail)
  go_region_held3 (fun w' => w'.cell? ⟨p, 0, none⟩ = some (.slice A m c) ∧ w'.cell? ⟨w.heap.size, 12, none⟩ = some (.int .i64 (most : Int))) (first | exact ⟨k0, k1⟩ | exact ⟨k0', k1'⟩)
    (first | (go_at_call 77; refine HCal.out.mono ?_; rintro r W1 ⟨A1, n1, c1, X1, rfl, hh, kk, rfl⟩
              have HH : Hid (E = 0 → X1 = X ∧ n1 = l'.length ∧ n1 ≤ c1 ∧ Rd B8 (W0.drew.drewN kk) (fun b => b < D) A1 l') := hh
              have k0' : (W0.drew.drewN kk).cell? ⟨p, 0, none⟩ = some (.slice A m c) := y0
              have k1' : (W0.drew.drewN kk).cell? ⟨w.heap.size, 12, none⟩ = some (.int .i64 (most : Int)) := x12
              have hbl' : Hid (Blk (W0.drew.drewN kk) (w.heap.size + 1 + 1) 71 #[.int .i64 3, .int .u64 0, .int .u8 0, .int .u8 0, .int .u8 0, .int .u8 0, .int .u8 0, .int .u8 0, .int .u8 0, .int .u8 0, .int .u8 0, (.slice none 0 0), .int .i64 0]) := hbl
              have hbm' : Hid (Blk (W0.drew.drewN kk) (w.heap.size + 1) 71 #[.int .i64 0, .int .u64 0, .int .u8 0, .int .u8 0, .int .u8 0, .int .u8 0, .int .u8 0, .int .u8 0, .int .u8 0, .int .u8 0, .int .u8 0, (.slice none 0 0), .int .i64 0]) := hbm
              have HC' : Hid (RCur (W0.drew.drewN kk) D p 0 l) := HC
              have HG' : Hid (w.grownBy (W0.drew.drewN kk) (some p)) := grown_drewN (grown_drewN HG.out 1) kk
              have x0' : (W0.drew.drewN kk).cell? ⟨w.heap.size, 0, none⟩ = some (.int .i64 3) := x0
              have hs' : (W0.drew.drewN kk).heap.size = w.heap.size + 3 := hsz
              clear hh HCal
              generalize W0.drew.drewN kk = W2 at HH k0' k1' hbl' hbm' HC' HG' x0' hs' ⊢))
  clear k0 k1 y0 y1 f0 f1 x0 x12 hbm hbl HC HR HG hsz k0' k1'
  by_cases hE : E = 0
  · subst hE
    obtain ⟨rfl, hnn, hn1, hr1⟩ := HH.out rfl
    have ht0 : (((0 : Nat) : Int) == 0) = true := by simp
    have ht4 : (((4 : Nat) : Int) != 0) = true := by simp
    have wn : IntKind.u64.wrap (n1 : Int) = (n1 : Int) := wrap_u64_nat _ (by omega)
    have hF := F.out
    rw [if_neg (by simp), ← hnn] at hF
    have HNN := Lib.hid hnn
    clear HH hle F hnn
    by_cases hX : n1 < X1
    · have hd : decide ((n1 : Int) < (X1 : Int)) = true := by simp; omega
      have hd' : decide (n1 < X1) = true := by simp; omega
      rw [if_pos hX] at hF
      simp only [Prod.mk.injEq] at hF
      obtain ⟨rfl, rfl, rfl⟩ := hF
      clear hr1
      have hbm2 := Lib.hid ((hbm'.out.far (p := ⟨p, 0, none⟩) (by simp; omega) (.slice none 0 0)).far (p := ⟨p, 1, none⟩) (by simp; omega) (.int .i64 4))
      have HE := Lib.hid (rread_end #[.int .i64 3, .int .u64 0, .int .u8 0, .int .u8 0, .int .u8 0, .int .u8 0, .int .u8 0, .int .u8 0, .int .u8 0, .int .u8 0, .int .u8 0, (.slice none 0 0), .int .i64 0] hpl (HC'.out.err _ 4 rfl) (grown_set (grown_set HG'.out ⟨p, 0, none⟩ (.slice none 0 0) (.inl rfl)) ⟨p, 1, none⟩ (.int .i64 4) (.inl rfl)) hbm2.out)
      obtain ⟨_, _, g0, g0b, g1, g2, _⟩ := HC'.out.cells
      clear hbm' hbl'
      go_upto_region 32 with (fail)
      refine wp_region_lit ?_
      iterate 3 (refine wpList_plain rfl fun K hK => ?_; go_simp; refine hK _ _ ?_; clear hK K)
      refine wpList_store_row rfl 71 (.tmp 4) (.tmp 155) rfl (w.heap.size + 1) #[.int .i64 3, .int .u64 0, .int .u8 0, .int .u8 0, .int .u8 0, .int .u8 0, .int .u8 0, .int .u8 0, .int .u8 0, .int .u8 0, .int .u8 0, (.slice none 0 0), .int .i64 0] rfl rfl 71 _ hbm2.out info_pc rfl (pc_one _ _ _ _ _ _ _) ?_
      go_wp2
      exact bodyPost_ret (results_cell_row rfl _ _ (w.heap.size + 1) 71 _ (0, 0) _ rfl HE.out.2.2 Try.underlying71 rfl info_pc) rfl (by first | exact ⟨none, ⟨0, rfl⟩, Rd.nil, HE.out.1, HE.out.2.1⟩ | exact ⟨none, 0, rfl, Nat.le_refl _, Rd.nil, HE.out.1, HE.out.2.1⟩)
    · have hd : decide ((n1 : Int) < (X1 : Int)) = false := by simp; omega
      have hd' : decide (n1 < X1) = false := by simp; omega
      rw [if_neg hX] at hF
      simp only [Prod.mk.injEq] at hF
      have hlv : v.length = X1 ∧ l2.length = n1 - X1 := by
        obtain ⟨rfl, _, rfl⟩ := hF
        rw [List.length_take, List.length_drop, ← HNN.out]
        omega
      have hrv : Rd B8 W2 (fun b => b < D) A1 v := by
        rw [hF.1]
        exact hr1.take X1
      have hrl : Rd B8 W2 (fun b => b < D) (if c1 = X1 then A1 else A1.map (·.add X1)) l2 := by
        obtain ⟨rfl, _, rfl⟩ := hF
        by_cases h : c1 = X1
        · have h0 : l'.drop X1 = [] := List.eq_nil_of_length_eq_zero (by omega)
          rw [h0]; exact Rd.nil
        · rw [if_neg h]; exact hr1.drop X1
      obtain rfl : e2 = 0 := hF.2.1
      have hX' : X1 ≤ n1 := by omega
      have hn16 : n1 ≤ 1000000 := by have := HNN.out; omega
      have i1 : (X1 : Int) ≤ (n1 : Int) := by omega
      have i2 : (n1 : Int) ≤ (c1 : Int) := by omega
      have i3 : (X1 : Int) ≤ (c1 : Int) := by omega
      have i4 : (0 : Int) ≤ (X1 : Int) := by omega
      have ht5 : (((0 : Nat) : Int) != 0) = false := by simp
      have HLV := Lib.hid hlv
      have q11 : W2.drew.frozen? ⟨w.heap.size + 1 + 1, 11, none⟩ = false := hbl'.out.frozen 11
      have q11c : W2.drew.cell? ⟨w.heap.size + 1 + 1, 11, none⟩ = some (.slice none 0 0) := hbl'.out.cell 11
      clear hF hr1 hlv HNN
      go_upto_region 11 with (fail)
      go_region_held3 (fun _ => True) (first | trivial) (first | fail)
      have hbm3 : Blk (W2.setCell ⟨w.heap.size + 1 + 1, 11, none⟩ (.slice A1 X1 c1)).drew (w.heap.size + 1) 71 #[.int .i64 0, .int .u64 0, .int .u8 0, .int .u8 0, .int .u8 0, .int .u8 0, .int .u8 0, .int .u8 0, .int .u8 0, .int .u8 0, .int .u8 0, (.slice none 0 0), .int .i64 0] := hbm'.out.far (p := ⟨w.heap.size + 1 + 1, 11, none⟩) (by simp) _
      have hbl3 : Blk (W2.setCell ⟨w.heap.size + 1 + 1, 11, none⟩ (.slice A1 X1 c1)).drew (w.heap.size + 1 + 1) 71 #[.int .i64 3, .int .u64 0, .int .u8 0, .int .u8 0, .int .u8 0, .int .u8 0, .int .u8 0, .int .u8 0, .int .u8 0, .int .u8 0, .int .u8 0, (.slice A1 X1 c1), .int .i64 0] := hbl'.out.set_ 11 _
      have HC3 : Hid (RCur (W2.setCell ⟨w.heap.size + 1 + 1, 11, none⟩ (.slice A1 X1 c1)).drew D p 0 l) := HC'.out.far (a := ⟨w.heap.size + 1 + 1, 11, none⟩) (by simp; omega) (by simp; omega) _
      have HG3 : Hid (w.grownBy (W2.setCell ⟨w.heap.size + 1 + 1, 11, none⟩ (.slice A1 X1 c1)).drew (some p)) := grown_drewN (grown_set HG'.out ⟨w.heap.size + 1 + 1, 11, none⟩ _ (.inr (by simp; omega))) 1
      have hv3 : Hid (Rd B8 (W2.setCell ⟨w.heap.size + 1 + 1, 11, none⟩ (.slice A1 X1 c1)).drew (fun b => b < D) A1 v) := hrv.far (p := ⟨w.heap.size + 1 + 1, 11, none⟩) (fun b hb => by simp; omega) _
      have hl3 : Hid (Rd B8 (W2.setCell ⟨w.heap.size + 1 + 1, 11, none⟩ (.slice A1 X1 c1)).drew (fun b => b < D) (if c1 = X1 then A1 else A1.map (·.add X1)) l2) := hrl.far (p := ⟨w.heap.size + 1 + 1, 11, none⟩) (fun b hb => by simp; omega) _
      have g9 : (W2.setCell ⟨w.heap.size + 1 + 1, 11, none⟩ (.slice A1 X1 c1)).drew.cell? ⟨w.heap.size, 0, none⟩ = some (.int .i64 3) := by
        show (W2.setCell _ _).cell? _ = _
        rw [World.cell?_setCell_far _ _ _ _ (by simp; omega)]; exact x0'
      clear hbm' hbl' HC' HG' hrv hrl x0' hs' q11 q11c
      generalize (W2.setCell ⟨w.heap.size + 1 + 1, 11, none⟩ (.slice A1 X1 c1)).drew = W3 at *
      generalize (if c1 = X1 then A1 else A1.map (·.add X1)) = A2 at *
      obtain ⟨c2, hc2⟩ : ∃ c2, c1 - X1 = c2 := ⟨_, rfl⟩
      obtain ⟨n2, hn2⟩ : ∃ n2, n1 - X1 = n2 := ⟨_, rfl⟩
      have hn2' : l2.length = n2 := by have := HLV.out; omega
      have hn2c : n2 ≤ c2 := by omega
      have hn26 : n2 ≤ 1000000 := by omega
      have hX3 : X1 ≤ c1 := by omega
      rw [hc2, hn2]
      have hbm2 := Lib.hid (hbm3.far (p := ⟨p, 0, none⟩) (by simp; omega) (.slice A2 n2 c2))
      have hbl2 := Lib.hid (hbl3.far (p := ⟨p, 0, none⟩) (by simp; omega) (.slice A2 n2 c2))
      have HE := Lib.hid (rread_end #[.int .i64 3, .int .u64 0, .int .u8 0, .int .u8 0, .int .u8 0, .int .u8 0, .int .u8 0, .int .u8 0, .int .u8 0, .int .u8 0, .int .u8 0, (.slice A1 X1 c1), .int .i64 0] hpl (HC3.out.rest hn2' hn2c hn26 hl3.out) (grown_set HG3.out ⟨p, 0, none⟩ (.slice A2 n2 c2) (.inl rfl)) hbm2.out)
      have hv4 : Hid (Rd B8 ((W3.setCell ⟨p, 0, none⟩ (.slice A2 n2 c2)).setRow (w.heap.size + 1) #[.int .i64 3, .int .u64 0, .int .u8 0, .int .u8 0, .int .u8 0, .int .u8 0, .int .u8 0, .int .u8 0, .int .u8 0, .int .u8 0, .int .u8 0, (.slice A1 X1 c1), .int .i64 0]) (fun b => b < D) A1 v) := by
        refine Rd.keep (hv3.out.far (p := ⟨p, 0, none⟩) (fun b hb => by simp; omega) (.slice A2 n2 c2)) (fun b hb => ?_)
        simp only [World.setRow, Array.getElem?_modify]
        rw [if_neg (by omega)]
      obtain ⟨_, _, g0, _, g1, g2, _⟩ := HC3.out.cells
      clear hbm3 hbl3 hv3 hl3 hc2 hn2 hn2' i1 i2 i3 i4 hX hd hd'
      go_upto_region 34 with (fail)
      refine wp_region_lit ?_
      refine wpList_load_row rfl 71 (.tmp 5) rfl (w.heap.size + 1 + 1) rfl 71 #[.int .i64 3, .int .u64 0, .int .u8 0, .int .u8 0, .int .u8 0, .int .u8 0, .int .u8 0, .int .u8 0, .int .u8 0, .int .u8 0, .int .u8 0, (.slice A1 X1 c1), .int .i64 0] (0, 0) _ hbl2.out Try.underlying71 rfl info_pc ?_
      refine wpList_store_row rfl 71 (.tmp 4) (.tmp 160) rfl (w.heap.size + 1) #[.int .i64 3, .int .u64 0, .int .u8 0, .int .u8 0, .int .u8 0, .int .u8 0, .int .u8 0, .int .u8 0, .int .u8 0, .int .u8 0, .int .u8 0, (.slice A1 X1 c1), .int .i64 0] rfl rfl 71 _ hbm2.out info_pc rfl (pc_one _ _ _ _ _ _ _) ?_
      go_wp2
      exact bodyPost_ret (results_cell_row rfl _ _ (w.heap.size + 1) 71 _ (0, 0) _ rfl HE.out.2.2 Try.underlying71 rfl info_pc) rfl ⟨A1, c1, by rw [HLV.out.1], by rw [HLV.out.1]; exact hX3, hv4.out, HE.out.1, HE.out.2.1⟩
  · have ht0 : ((E : Int) == 0) = false := by simp; omega
    have ht4 : ((E : Int) != 0) = true := by simp; omega
    have hF := F.out
    rw [if_pos hE] at hF
    simp only [Prod.mk.injEq] at hF
    obtain ⟨rfl, rfl, rfl⟩ := hF
    obtain rfl : l2 = [] := hle hE
    clear F HH hle
    have hbm2 := Lib.hid ((hbm'.out.far (p := ⟨p, 0, none⟩) (by simp; omega) (.slice none 0 0)).far (p := ⟨p, 1, none⟩) (by simp; omega) (.int .i64 (e2 : Int)))
    have HE := Lib.hid (rread_end #[.int .i64 3, .int .u64 0, .int .u8 0, .int .u8 0, .int .u8 0, .int .u8 0, .int .u8 0, .int .u8 0, .int .u8 0, .int .u8 0, .int .u8 0, (.slice none 0 0), .int .i64 0] hpl (HC'.out.err _ (e2 : Int) rfl) (grown_set (grown_set HG'.out ⟨p, 0, none⟩ (.slice none 0 0) (.inl rfl)) ⟨p, 1, none⟩ (.int .i64 (e2 : Int)) (.inl rfl)) hbm2.out)
    obtain ⟨_, _, g0, g0b, g1, g2, _⟩ := HC'.out.cells
    clear hbm' hbl'
    go_upto_region 32 with (fail)
    refine wp_region_lit ?_
    iterate 3 (refine wpList_plain rfl fun K hK => ?_; go_simp; refine hK _ _ ?_; clear hK K)
    refine wpList_store_row rfl 71 (.tmp 4) (.tmp 155) rfl (w.heap.size + 1) #[.int .i64 3, .int .u64 0, .int .u8 0, .int .u8 0, .int .u8 0, .int .u8 0, .int .u8 0, .int .u8 0, .int .u8 0, .int .u8 0, .int .u8 0, (.slice none 0 0), .int .i64 0] rfl rfl 71 _ hbm2.out info_pc rfl (pc_one _ _ _ _ _ _ _) ?_
    go_wp2
    exact bodyPost_ret (results_cell_row rfl _ _ (w.heap.size + 1) 71 _ (0, 0) _ rfl HE.out.2.2 Try.underlying71 rfl info_pc) rfl (by first | exact ⟨none, ⟨0, rfl⟩, Rd.nil, HE.out.1, HE.out.2.1⟩ | exact ⟨none, 0, rfl, Nat.le_refl _, Rd.nil, HE.out.1, HE.out.2.1⟩)
end Go.Proofs.Ytogdbccfkbbcaaa
