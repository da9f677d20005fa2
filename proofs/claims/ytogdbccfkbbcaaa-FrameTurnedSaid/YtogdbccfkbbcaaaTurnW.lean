/- The walk: FrameTurned (layer 27). -/
import Derived.Test.YtogdbccfkbbcaaaTurnLaw
import Derived.Test.YtogdbccfkbbcaaaAlive27
import Derived.Test.YtogdbccfkbbcaaaMem3
import Derived.StillTailTactics
namespace Go.Proofs.Ytogdbccfkbbcaaa
open Go.RowKit
set_option linter.unusedSimpArgs false
theorem xorT : ∀ (x : Fin 256) (r : Fin 8), bits .xor .u8 ((x.val : Nat) : Int) (128 / 2 ^ r.val) = ((x.val ^^^ (128 >>> r.val) : Nat) : Int) := by decide +kernel
theorem tbit (t k : Nat) : (((t : Int) / 2 ^ k).tmod 2 == 1) = t.testBit k := by
  have h : ((t : Int) / 2 ^ k).tmod 2 = ((t / 2 ^ k % 2 : Nat) : Int) := by
    have e : (t : Int) / 2 ^ k = ((t / 2 ^ k : Nat) : Int) := by simp
    rw [e, Int.tmod_eq_emod_of_nonneg (Int.natCast_nonneg _)]
    omega
  rw [h, Nat.testBit_eq_decide_div_mod_eq, Bool.eq_iff_iff]
  simp only [beq_iff_eq, decide_eq_true_eq]
  omega
set_option maxHeartbeats 4000000 in
set_option maxRecDepth 100000 in
theorem turned_walk (f : Fr) (A : Option Addr) (n c : Nat) (p : Int) (t : Nat) (S : Nat → Prop) (w : World) (hn : f.data.length = n) (hs : Small f) (hr : Rd B8 w S A f.data)
    (hp1 : -9223372036854775808 ≤ p) (hp2 : p ≤ 9223372036854775807) (ht : t < 65536) (h200 : n ≤ 200) :
    Calls Try.prog 5 #[.agg #[.int .u8 (f.kind.toNat : Int), .int .u8 (f.frm.toNat : Int), .int .u8 (f.too.toNat : Int), .int .u32 (f.sess : Int), .int .u32 (f.seq : Int), .int .u8 (f.part.toNat : Int), .int .u32 (f.off : Int), .bool f.last, .slice A n c], .int .i64 p, .int .u16 (t : Int)] w fun r w' => r = .returned (.bool true) ∧ Below w.heap.size w w' := by
  have hb0 := Blk.new w 38 #[.int .u8 (f.kind.toNat : Int), .int .u8 (f.frm.toNat : Int), .int .u8 (f.too.toNat : Int), .int .u32 (f.sess : Int), .int .u32 (f.seq : Int), .int .u8 (f.part.toNat : Int), .int .u32 (f.off : Int), .bool f.last, .slice A n c]
  have hr0 := hr.alloc (.cells #[.int .u8 (f.kind.toNat : Int), .int .u8 (f.frm.toNat : Int), .int .u8 (f.too.toNat : Int), .int .u32 (f.sess : Int), .int .u32 (f.seq : Int), .int .u8 (f.part.toNat : Int), .int .u32 (f.off : Int), .bool f.last, .slice A n c] 38)
  have hB0 : Below w.heap.size w (w.alloc (.cells #[.int .u8 (f.kind.toNat : Int), .int .u8 (f.frm.toNat : Int), .int .u8 (f.too.toNat : Int), .int .u32 (f.sess : Int), .int .u32 (f.seq : Int), .int .u8 (f.part.toNat : Int), .int .u32 (f.off : Int), .bool f.last, .slice A n c] 38)) := (Below.refl _ _).alloc (Nat.le_refl _) _
  have hs0 : (w.alloc (.cells #[.int .u8 (f.kind.toNat : Int), .int .u8 (f.frm.toNat : Int), .int .u8 (f.too.toNat : Int), .int .u32 (f.sess : Int), .int .u32 (f.seq : Int), .int .u8 (f.part.toNat : Int), .int .u32 (f.off : Int), .bool f.last, .slice A n c] 38)).heap.size = w.heap.size + 1 := World.size_alloc _ _
  have hd2 : decide ((n : Int) > 200) = false := by simp; omega
  have HN := Lib.hid hn
  clear hn hr
  go_enter Try.func5, Try.ntmps5
  have k8 := hb0.cell 8
  simp at k8
  go_wp2_with fail
  generalize w.alloc (.cells #[.int .u8 (f.kind.toNat : Int), .int .u8 (f.frm.toNat : Int), .int .u8 (f.too.toNat : Int), .int .u32 (f.sess : Int), .int .u32 (f.seq : Int), .int .u8 (f.part.toNat : Int), .int .u32 (f.off : Int), .bool f.last, .slice A n c] 38) = W0 at hb0 hs0 hr0 hB0 k8 ⊢
  refine (encode_calls f A n c HN.out _ hs (fun _ => ⟨_, hr0⟩)).mono ?_
  rintro r W1 ⟨A1, c1, rfl, hc1, hr1, hb1⟩
  have HB1 := Lib.hid (hB0.trans (hb1.mono (by omega)))
  have hf1 := hb0.below hb1 (by omega)
  have hs1 := hb1.size
  have hal := fun W => alive27_calls W
  clear hb1 hB0 hb0 hr0 k8
  by_cases he : checkE f = 0
  · have hl := encS_length f hs he
    have hd := checkE_zero f he
    rw [HN.out] at hl
    have HE := Lib.hid (encF_good he)
    rw [HE.out] at hr1 hc1 ⊢
    obtain ⟨m, hm⟩ : ∃ m, (encS f).length = m := ⟨_, rfl⟩
    have HM := Lib.hid hm
    rw [hm] at hl hc1 ⊢
    have ht1 : ((((0 : Nat) : Int)) != 0) = false := by simp
    have ht2 : decide ((m : Int) < 2) = false := by simp; omega
    have hw1 : IntKind.i64.wrap (8 * (m : Int)) = 8 * (m : Int) := IntWalk.i64_in _ ⟨by omega, by omega⟩
    have hw2 : IntKind.i64.wrap (8 * (m : Int) - 16) = 8 * (m : Int) - 16 := IntWalk.i64_in _ ⟨by omega, by omega⟩
    by_cases hbad : p < 0 ∨ p > 8 * (m : Int) - 16 ∨ t = 0
    · have h3 : decide (p < 0) = true ∨ (decide (p < 0) = false ∧ decide (p > 8 * (m : Int) - 16) = true) ∨ (decide (p < 0) = false ∧ decide (p > 8 * (m : Int) - 16) = false ∧ ((t : Int) == 0) = true) := by
        simp only [decide_eq_true_eq, decide_eq_false_iff_not, beq_iff_eq]
        omega
      clear hbad hr1 hc1 hm
      rcases h3 with h3 | ⟨h3, h4⟩ | ⟨h3, h4, h5⟩ <;>
      · go_wp2_with (go_at_call 10; refine (hal _).mono ?_; rintro r W2 ⟨rfl, hb2⟩; have HB2 := Lib.hid hb2; clear hb2)
        go_ret
        exact ⟨rfl, HB1.out.trans (HB2.out.mono (by omega))⟩
    · have h3 : decide (p < 0) = false := by simp; omega
      have h4 : decide (p > 8 * (m : Int) - 16) = false := by simp; omega
      have h5 : ((t : Int) == 0) = false := by simp; omega
      obtain ⟨P, rfl⟩ : ∃ P : Nat, p = (P : Int) := ⟨p.toNat, by omega⟩
      have hpm : P + 16 ≤ 8 * m := by omega
      have ht0 : t ≠ 0 := by omega
      clear hbad hm
      obtain ⟨i0, hi, hz0, hz1, hz2⟩ := info_parts info5
      go_wp2_with (at_builtin; refine wpList_append_own _ rfl (.tmp 49) (.tmp 50) 36 rfl (enc := B8) (S := fun b => W0.heap.size ≤ b) 5 i0 (.int .u8 0) 1 Try.underlying36 hi hz0 hz1 hz2 rfl _ rfl A1 m c1 (encS f) rfl HM.out ?c3 (hr1.alloc _) ?c4 ?c5 ?_)
      case c3 => omega
      case c4 => unfold maxLen; omega
      case c5 => omega
      intro g c2 W2 hc2 hg2 ho2 hb2
      have hs2 := hb2.size
      simp only [World.size_alloc] at hg2 hs2
      have hf2 := (hf1.alloc (.cells #[] 5)).below hb2 (by omega)
      have HB2 := Lib.hid ((HB1.out.alloc (by omega) (.cells #[] 5)).trans (hb2.mono (by omega)))
      clear hb2 hf1 hr1 HB1 hc1
      have hL : (encS f).length = m := HM.out
      go_wp2_with fail
      go_loopw [10] (fun i wr => ∃ k : Nat, k ≤ 16 ∧ i = .int .i64 k ∧ Ow B8 wr 5 g (turnN (encS f) P t k) ∧ Blk wr w.heap.size 38 #[.int .u8 (f.kind.toNat : Int), .int .u8 (f.frm.toNat : Int), .int .u8 (f.too.toNat : Int), .int .u32 (f.sess : Int), .int .u32 (f.seq : Int), .int .u8 (f.part.toNat : Int), .int .u32 (f.off : Int), .bool f.last, .slice A n c] ∧ Hid (Below w.heap.size w wr)) (fun i _ => 16 - (intOf i).toNat)
      case atStart => exact ⟨0, by omega, rfl, ho2, hf2, HB2⟩
      case round =>
        obtain ⟨k, hk, rfl, ho, hf, HB⟩ := hrel
        by_cases hlt : k < 16
        · have hd16 : decide ((k : Int) < 16) = true := by simp; omega
          have hd16' : decide (k < 16) = true := by simp; omega
          have hln := turnN_length (encS f) P t k
          obtain ⟨q, hq⟩ : ∃ q, (P + k) / 8 = q := ⟨_, rfl⟩
          obtain ⟨r, hr⟩ : ∃ r, (P + k) % 8 = r := ⟨_, rfl⟩
          have hql : q < (turnN (encS f) P t k).length := by omega
          obtain ⟨x, hx⟩ : ∃ x, (turnN (encS f) P t k)[q]? = some x := ⟨_, List.getElem?_eq_getElem hql⟩
          have hcell : wr.cell? ⟨g, q, none⟩ = some (.int .u8 (x.toNat : Int)) := ho.get hx
          have hfr := ho.frozen q
          by_cases hbit : t.testBit k = true
          · have hd1 : (((t : Int) / 2 ^ k).tmod 2 == 1) = true := by rw [tbit, hbit]
            have hw3 : IntKind.i64.wrap ((P : Int) + (k : Int)) = (P : Int) + (k : Int) := IntWalk.i64_in _ ⟨by omega, by omega⟩
            have hw4 : ((P : Int) + (k : Int)).tdiv 8 = (q : Int) := by rw [Int.tdiv_eq_ediv_of_nonneg (by omega)]; omega
            have hw5 : ((P : Int) + (k : Int)).tmod 8 = (r : Int) := by rw [Int.tmod_eq_emod_of_nonneg (by omega)]; omega
            have hi2 : (q : Int) < (m : Int) := by omega
            have hw6 : IntKind.i64.wrap (q : Int) = (q : Int) := IntWalk.i64_in _ ⟨by omega, by omega⟩
            have hw7 : IntKind.i64.wrap (r : Int) = (r : Int) := IntWalk.i64_in _ ⟨by omega, by omega⟩
            have hxr : bits .xor .u8 (x.toNat : Int) (128 / 2 ^ r) = ((x ^^^ UInt8.ofNat (128 >>> r)).toNat : Int) := by
              rw [u8_turn x r (by omega)]; exact xorT ⟨x.toNat, x.toNat_lt⟩ ⟨r, by omega⟩
            go_wp2_with fail
            go_still_tail 19, (by kernel_rfl)
            change wpList _ _ _ _ _ wr.drew
            have hcell2 : wr.drew.cell? ⟨g, q, none⟩ = some (.int .u8 (x.toNat : Int)) := hcell
            have hfr2 : wr.drew.frozen? ⟨g, q, none⟩ = false := hfr
            have ho2 := ho.drew
            have hf2 := hf.drew
            have HBd := Lib.hid (below_drewN HB.out 1)
            have HBd2 : Hid (Below w.heap.size w wr.drew) := HBd
            generalize wr.drew = wd at hcell2 hfr2 ho2 hf2 HBd2 ⊢
            go_wp2
            go_roundw
            case rel =>
              refine ⟨k + 1, by omega, by go_num, ?_, hf2.far (p := ⟨g, q, none⟩) (by simp; omega) _, HBd2.out.setCell (p := ⟨g, q, none⟩) (by simp; omega) _⟩
              have := ho2.set_ q (x ^^^ UInt8.ofNat (128 >>> r))
              unfold turnN
              rw [if_pos hbit]
              unfold turn1
              rw [hq, hr, List.getD_eq_getElem?_getD, hx]
              exact this
            case measure => simp [intOf]; omega
          · have hd1 : (((t : Int) / 2 ^ k).tmod 2 == 1) = false := by rw [tbit]; simpa using hbit
            go_wp2
            go_roundw
            case rel => exact ⟨k + 1, by omega, by go_num, by unfold turnN; rw [if_neg hbit]; exact ho, hf, HB⟩
            case measure => simp [intOf]; omega
        · obtain rfl : k = 16 := by omega
          have hd16 : decide ((16 : Int) < 16) = false := by simp
          have hln := turnN_length (encS f) P t 16
          rw [hL] at hln
          have HDt := Lib.hid (decF_turn f P t (by omega) ht ht0)
          have hsz := HB.out.size
          have hgl := ho.lt
          clear hs2 hf2 ho2 HB2
          go_wp2_with fail
          refine (decode_calls (some ⟨g, 0, none⟩) (turnN (encS f) P t 16) m c2 (fun _ => True) wr hln (by assumption) (by omega) (ho.rd trivial)).mono ?_
          obtain ⟨G, hG⟩ : ∃ G, decF (turnN (encS f) P t 16) = (G, 5) := ⟨_, HDt.out⟩
          rw [hG]
          clear hG HDt
          dsimp only
          rintro r W3 ⟨A3, c3, rfl, hc3, hr3, hb3⟩
          have hf3 := hf.below hb3 (by omega)
          have HB3 := Lib.hid (HB.out.trans (hb3.mono (by omega)))
          have hs3 := hb3.size
          clear hb3 HB ho hf hr3 hc3
          obtain ⟨BIG, hmk⟩ : ∃ BIG : Array Value, ∀ W : World, (Instr.makeSlice 36 (.int .i64 65537) (.int .i64 65537)).run Try.prog W = .ok (.slice (some ⟨W.heap.size, 0, none⟩) 65537 65537) (W.alloc (.cells BIG 5)) := by
            refine ⟨madeCells (Value.int .u8 0).cells (65537 * 1), fun W => ?_⟩
            have h := run_make (P := Try.prog) W 36 5 i0 _ Try.underlying36 hi hz0 .i64 .i64 65537 65537 (by omega) (by omega) (by rw [hz2]; omega) (by omega)
            rw [hz1] at h
            exact h
          have hf5 := (hf3.alloc (.cells #[.int .u8 (G.kind.toNat : Int), .int .u8 (G.frm.toNat : Int), .int .u8 (G.too.toNat : Int), .int .u32 (G.sess : Int), .int .u32 (G.seq : Int), .int .u8 (G.part.toNat : Int), .int .u32 (G.off : Int), .bool G.last, .slice A3 G.data.length c3] 38)).alloc (.cells BIG 5)
          have k8 := hf5.cell 8
          have y8 := hf5.frozen 8
          simp at k8
          have hB5 := Lib.hid ((HB3.out.alloc (by omega) (.cells #[.int .u8 (G.kind.toNat : Int), .int .u8 (G.frm.toNat : Int), .int .u8 (G.too.toNat : Int), .int .u32 (G.sess : Int), .int .u32 (G.seq : Int), .int .u8 (G.part.toNat : Int), .int .u32 (G.off : Int), .bool G.last, .slice A3 G.data.length c3] 38)).alloc (by simp; omega) (.cells BIG 5))
          clear hf3
          have ht5 : ((5 : Int) == 5) = true := by simp
          have hf6 := hf5.set_ 8 (.slice (some ⟨W3.heap.size + 1, 0, none⟩) 65537 65537)
          have hB6 := Lib.hid (hB5.out.setCell (p := ⟨w.heap.size, 8, none⟩) (Nat.le_refl _) (.slice (some ⟨W3.heap.size + 1, 0, none⟩) 65537 65537))
          simp at hf6
          have hrl : (List.replicate 65537 (0 : UInt8)).length = 65537 := List.length_replicate
          obtain ⟨big, hbig⟩ : ∃ big, big = List.replicate 65537 (0 : UInt8) := ⟨_, rfl⟩
          rw [← hbig] at hrl
          clear hbig
          obtain ⟨c0, c1', c2', c3', c4, c5, c6, c7, c8⟩ := frCells (f := { f with data := big }) (A := some ⟨W3.heap.size + 1, 0, none⟩) (n := 65537) (c := 65537) hf6
          have hE2 := fun W => encode_calls { f with data := big } (some ⟨W3.heap.size + 1, 0, none⟩) 65537 65537 hrl W ⟨hs.sess, hs.seq, hs.off⟩ (fun h => by
            have := checkE_zero _ h
            simp only at this
            omega)
          have hc15 : Hid (encF { f with data := big } = ([], 15)) := by
            show _ = _
            have h15 : checkE { f with data := big } = 15 := by
              have h0 := he
              unfold checkE at h0 ⊢
              have e1 : kindB { f with data := big } = kindB f := rfl
              have e2 : endsB { f with data := big } = endsB f := rfl
              have e3 : sizeB { f with data := big } = false := by unfold sizeB; simp only [hrl]; decide
              rw [e1, e2, e3]
              cases h1 : kindB f <;> cases h2 : endsB f <;> rw [h1, h2] at h0 <;> simp [firstE] at h0 ⊢
            unfold encF
            rw [h15]
            rfl
          go_wp2_with fail
          have hs6 := hB6.out.size
          refine (hE2 _).mono ?_
          rw [hc15.out]
          rintro r W7 ⟨A7, c7', rfl, hc7, hr7, hb7⟩
          have HB7 := Lib.hid (hB6.out.trans (hb7.mono hs6))
          have hs7 := HB7.out.size
          clear hb7 hB6 hB5 hf6 hf5 k8 y8 c0 c1' c2' c3' c4 c5 c6 c7 c8 hE2 hc15 hmk hr7 hc7 hs6
          go_wp2_with (go_at_call 10; refine (hal _).mono ?_; rintro r W8 ⟨rfl, hb8⟩; have HB8 := Lib.hid hb8; clear hb8)
          go_ret
          exact ⟨rfl, HB7.out.trans (HB8.out.mono hs7)⟩
  · have HE := Lib.hid (encF_bad he)
    rw [HE.out]
    have ht1 : ((checkE f : Int) != 0) = true := by simp; omega
    go_wp2_with (go_at_call 10; refine (hal _).mono ?_; rintro r W2 ⟨rfl, hb2⟩; have HB2 := Lib.hid hb2; clear hb2)
    go_ret
    exact ⟨rfl, HB1.out.trans (HB2.out.mono (by omega))⟩
set_option maxRecDepth 100000 in
theorem turned_big (f : Fr) (A : Option Addr) (n c : Nat) (p : Int) (t : Nat) (w : World) (h200 : 200 < n) :
    Calls Try.prog 5 #[.agg #[.int .u8 (f.kind.toNat : Int), .int .u8 (f.frm.toNat : Int), .int .u8 (f.too.toNat : Int), .int .u32 (f.sess : Int), .int .u32 (f.seq : Int), .int .u8 (f.part.toNat : Int), .int .u32 (f.off : Int), .bool f.last, .slice A n c], .int .i64 p, .int .u16 (t : Int)] w fun r w' => r = .returned (.bool true) ∧ Below w.heap.size w w' := by
  have hB0 : Below w.heap.size w (w.alloc (.cells #[.int .u8 (f.kind.toNat : Int), .int .u8 (f.frm.toNat : Int), .int .u8 (f.too.toNat : Int), .int .u32 (f.sess : Int), .int .u32 (f.seq : Int), .int .u8 (f.part.toNat : Int), .int .u32 (f.off : Int), .bool f.last, .slice A n c] 38)) := (Below.refl _ _).alloc (Nat.le_refl _) _
  have hd2 : decide ((n : Int) > 200) = true := by simp; omega
  have hal := fun W => alive27_calls W
  go_enter Try.func5, Try.ntmps5
  go_wp2_with (go_at_call 10; refine (hal _).mono ?_; rintro r W8 ⟨rfl, hb8⟩; have HB8 := Lib.hid hb8; clear hb8)
  go_ret
  exact ⟨rfl, hB0.trans (HB8.out.mono (by simp))⟩
end Go.Proofs.Ytogdbccfkbbcaaa
