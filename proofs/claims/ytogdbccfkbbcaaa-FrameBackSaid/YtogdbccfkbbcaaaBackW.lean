/- The walk: FrameBack (layer 27). -/
import Derived.Test.YtogdbccfkbbcaaaAlive27
namespace Go.Proofs.Ytogdbccfkbbcaaa
open Go.RowKit
set_option linter.unusedSimpArgs false
set_option maxHeartbeats 4000000 in
set_option maxRecDepth 100000 in
theorem back_walk (f : Fr) (A B : Option Addr) (n c nb cb : Nat) (l : List UInt8) (S S' : Nat → Prop) (w : World) (hn : f.data.length = n) (hs : Small f) (hr : Rd B8 w S A f.data)
    (hl : l.length = nb) (hcb : nb ≤ cb) (hrb : Rd B8 w S' B l) (h200 : n ≤ 200) (h500 : nb ≤ 500) :
    Calls Try.prog 6 #[.agg #[.int .u8 (f.kind.toNat : Int), .int .u8 (f.frm.toNat : Int), .int .u8 (f.too.toNat : Int), .int .u32 (f.sess : Int), .int .u32 (f.seq : Int), .int .u8 (f.part.toNat : Int), .int .u32 (f.off : Int), .bool f.last, .slice A n c], .slice B nb cb] w fun r w' => r = .returned (.bool true) ∧ Below w.heap.size w w' := by
  have hb0 := Blk.new w 38 #[.int .u8 (f.kind.toNat : Int), .int .u8 (f.frm.toNat : Int), .int .u8 (f.too.toNat : Int), .int .u32 (f.sess : Int), .int .u32 (f.seq : Int), .int .u8 (f.part.toNat : Int), .int .u32 (f.off : Int), .bool f.last, .slice A n c]
  have hr0 := hr.alloc (.cells #[.int .u8 (f.kind.toNat : Int), .int .u8 (f.frm.toNat : Int), .int .u8 (f.too.toNat : Int), .int .u32 (f.sess : Int), .int .u32 (f.seq : Int), .int .u8 (f.part.toNat : Int), .int .u32 (f.off : Int), .bool f.last, .slice A n c] 38)
  have hrb0 := hrb.alloc (.cells #[.int .u8 (f.kind.toNat : Int), .int .u8 (f.frm.toNat : Int), .int .u8 (f.too.toNat : Int), .int .u32 (f.sess : Int), .int .u32 (f.seq : Int), .int .u8 (f.part.toNat : Int), .int .u32 (f.off : Int), .bool f.last, .slice A n c] 38)
  have hB0 : Below w.heap.size w (w.alloc (.cells #[.int .u8 (f.kind.toNat : Int), .int .u8 (f.frm.toNat : Int), .int .u8 (f.too.toNat : Int), .int .u32 (f.sess : Int), .int .u32 (f.seq : Int), .int .u8 (f.part.toNat : Int), .int .u32 (f.off : Int), .bool f.last, .slice A n c] 38)) := (Below.refl _ _).alloc (Nat.le_refl _) _
  have hs0 : (w.alloc (.cells #[.int .u8 (f.kind.toNat : Int), .int .u8 (f.frm.toNat : Int), .int .u8 (f.too.toNat : Int), .int .u32 (f.sess : Int), .int .u32 (f.seq : Int), .int .u8 (f.part.toNat : Int), .int .u32 (f.off : Int), .bool f.last, .slice A n c] 38)).heap.size = w.heap.size + 1 := World.size_alloc _ _
  have hd2 : decide ((n : Int) > 200) = false := by simp; omega
  have hd5 : decide ((nb : Int) > 500) = false := by simp; omega
  have HN := Lib.hid hn
  have HL := Lib.hid hl
  have hal := fun W => alive27_calls W
  clear hn hr hrb hl
  go_enter Try.func6, Try.ntmps6
  have k8 := hb0.cell 8
  simp at k8
  go_wp2_with fail
  generalize w.alloc (.cells #[.int .u8 (f.kind.toNat : Int), .int .u8 (f.frm.toNat : Int), .int .u8 (f.too.toNat : Int), .int .u32 (f.sess : Int), .int .u32 (f.seq : Int), .int .u8 (f.part.toNat : Int), .int .u32 (f.off : Int), .bool f.last, .slice A n c] 38) = W0 at hb0 hs0 hr0 hrb0 hB0 k8 ⊢
  clear k8
  refine (decode_calls B l nb cb _ W0 HL.out hcb (by omega) hrb0).mono ?_
  rintro r W1 ⟨A1, c1, rfl, hc1, hr1, hb1⟩
  have HB1 := Lib.hid (hB0.trans (hb1.mono (by omega)))
  have hf1 := hb0.below hb1 (by omega)
  have hs1 := hb1.size
  have hrf1 := hr0.below hb1
  have hrb1 := hrb0.below hb1
  clear hb1 hB0 hb0 hr0 hrb0
  obtain ⟨g, e, hD⟩ : ∃ g e, decF l = (g, e) := ⟨_, _, rfl⟩
  have hgs : Small g := by have := decF_small l; rw [hD] at this; exact this
  rw [hD] at hr1 hc1 ⊢
  dsimp only at hr1 hc1 ⊢
  by_cases he : e = 0
  · subst he
    obtain ⟨hcg, heg⟩ := enc_decF l g hD
    have HE := Lib.hid (encF_good hcg)
    have HG := Lib.hid heg
    have ht1 : (((0 : Nat) : Int) == 0) = true := by simp
    clear hD heg
    have hz := Blk.new W1 38 #[.int .u8 (g.kind.toNat : Int), .int .u8 (g.frm.toNat : Int), .int .u8 (g.too.toNat : Int), .int .u32 (g.sess : Int), .int .u32 (g.seq : Int), .int .u8 (g.part.toNat : Int), .int .u32 (g.off : Int), .bool g.last, .slice A1 g.data.length c1]
    have hr2 := hr1.alloc (.cells #[.int .u8 (g.kind.toNat : Int), .int .u8 (g.frm.toNat : Int), .int .u8 (g.too.toNat : Int), .int .u32 (g.sess : Int), .int .u32 (g.seq : Int), .int .u8 (g.part.toNat : Int), .int .u32 (g.off : Int), .bool g.last, .slice A1 g.data.length c1] 38)
    have hf2 := hf1.alloc (.cells #[.int .u8 (g.kind.toNat : Int), .int .u8 (g.frm.toNat : Int), .int .u8 (g.too.toNat : Int), .int .u32 (g.sess : Int), .int .u32 (g.seq : Int), .int .u8 (g.part.toNat : Int), .int .u32 (g.off : Int), .bool g.last, .slice A1 g.data.length c1] 38)
    have hrf2 := hrf1.alloc (.cells #[.int .u8 (g.kind.toNat : Int), .int .u8 (g.frm.toNat : Int), .int .u8 (g.too.toNat : Int), .int .u32 (g.sess : Int), .int .u32 (g.seq : Int), .int .u8 (g.part.toNat : Int), .int .u32 (g.off : Int), .bool g.last, .slice A1 g.data.length c1] 38)
    have hrb2 := hrb1.alloc (.cells #[.int .u8 (g.kind.toNat : Int), .int .u8 (g.frm.toNat : Int), .int .u8 (g.too.toNat : Int), .int .u32 (g.sess : Int), .int .u32 (g.seq : Int), .int .u8 (g.part.toNat : Int), .int .u32 (g.off : Int), .bool g.last, .slice A1 g.data.length c1] 38)
    have HB2 := Lib.hid (HB1.out.alloc (by omega) (.cells #[.int .u8 (g.kind.toNat : Int), .int .u8 (g.frm.toNat : Int), .int .u8 (g.too.toNat : Int), .int .u32 (g.sess : Int), .int .u32 (g.seq : Int), .int .u8 (g.part.toNat : Int), .int .u32 (g.off : Int), .bool g.last, .slice A1 g.data.length c1] 38))
    obtain ⟨z0, z1, z2, z3, z4, z5, z6, z7, z8⟩ := frCells hz
    have hs2 : (W1.alloc (.cells #[.int .u8 (g.kind.toNat : Int), .int .u8 (g.frm.toNat : Int), .int .u8 (g.too.toNat : Int), .int .u32 (g.sess : Int), .int .u32 (g.seq : Int), .int .u8 (g.part.toNat : Int), .int .u32 (g.off : Int), .bool g.last, .slice A1 g.data.length c1] 38)).heap.size = W1.heap.size + 1 := World.size_alloc _ _
    clear hr1 hf1 hrf1 hrb1 HB1
    go_wp2_with fail
    generalize W1.alloc (.cells #[.int .u8 (g.kind.toNat : Int), .int .u8 (g.frm.toNat : Int), .int .u8 (g.too.toNat : Int), .int .u32 (g.sess : Int), .int .u32 (g.seq : Int), .int .u8 (g.part.toNat : Int), .int .u32 (g.off : Int), .bool g.last, .slice A1 g.data.length c1] 38) = W2 at hz hr2 hf2 hrf2 hrb2 HB2 hs2 z0 z1 z2 z3 z4 z5 z6 z7 z8 ⊢
    clear z0 z1 z2 z3 z4 z5 z6 z7 z8 hz
    refine (encode_calls g A1 g.data.length c1 rfl W2 hgs (fun _ => ⟨_, hr2⟩)).mono ?_
    rw [HE.out]
    dsimp only
    rw [HG.out]
    rintro r W3 ⟨A3, c3, rfl, hc3, hr3, hb3⟩
    have HB3 := Lib.hid (HB2.out.trans (hb3.mono (by omega)))
    have hf3 := hf2.below hb3 (by omega)
    have hrf3 := hrf2.below hb3
    have hrb3 := hrb2.below hb3
    have hs3 := hb3.size
    clear hb3 HE HG hr2 hf2 hrf2 hrb2 HB2 hc3
    have hll : Hid ((l == l) = true) := by show _ = _; simp
    have ht2 : (((0 : Nat) : Int) != 0) = false := by simp
    rw [HL.out]
    have hsame := same_calls A3 B l l nb nb c3 cb _ _ W3 HL.out HL.out (by omega) hr3 hrb3
    rw [hll.out] at hsame
    have HS := Lib.hid hsame
    clear hsame hll hr3 hrb3
    go_wp2_with fail
    refine HS.out.mono ?_
    rintro r W4 ⟨rfl, hb4⟩
    have HB4 := Lib.hid (HB3.out.trans (hb4.mono (by omega)))
    have hf4 := hf3.below hb4 (by omega)
    have hrf4 := hrf3.below hb4
    have hs4 := hb4.size
    clear hb4 HB3 hf3 hrf3 HS
    obtain ⟨y0, y1, y2, y3, y4, y5, y6, y7, y8⟩ := frCells hf4
    go_wp2_with fail
    clear y0 y1 y2 y3 y4 y5 y6 y7 y8
    refine (encode_calls f A n c HN.out _ hs (fun _ => ⟨_, hrf4⟩)).mono ?_
    rintro r W5 ⟨A5, c5, rfl, hc5, hr5, hb5⟩
    have HB5 := Lib.hid (HB4.out.trans (hb5.mono (by omega)))
    have hf5 := hf4.below hb5 (by omega)
    have hrf5 := hrf4.below hb5
    have hs5 := hb5.size
    clear hb5 HB4 hf4 hrf4
    by_cases hcf : checkE f = 0
    · have HF := Lib.hid (encF_good hcf)
      have hlen := encS_length f hs hcf
      rw [HN.out] at hlen
      have HD := Lib.hid (decF_enc f hs hcf)
      rw [HF.out] at hr5 hc5 ⊢
      dsimp only at hr5 hc5 ⊢
      have ht3 : (((0 : Nat) : Int) != 0) = false := by simp
      obtain ⟨m, hm⟩ : ∃ m, (encS f).length = m := ⟨_, rfl⟩
      have HM := Lib.hid hm
      rw [hm] at hlen hc5 ⊢
      clear hm
      go_wp2_with fail
      refine (decode_calls A5 (encS f) m c5 _ W5 HM.out hc5 (by omega) hr5).mono ?_
      rw [HD.out]
      dsimp only
      rw [HN.out]
      rintro r W6 ⟨A6, c6, rfl, hc6, hr6, hb6⟩
      have HB6 := Lib.hid ((HB5.out.trans (hb6.mono (by omega))).alloc (by have := hb6.size; omega) (.cells #[.int .u8 (f.kind.toNat : Int), .int .u8 (f.frm.toNat : Int), .int .u8 (f.too.toNat : Int), .int .u32 (f.sess : Int), .int .u32 (f.seq : Int), .int .u8 (f.part.toNat : Int), .int .u32 (f.off : Int), .bool f.last, .slice A6 n c6] 38))
      have hf6 := (hf5.below hb6 (by omega)).alloc (.cells #[.int .u8 (f.kind.toNat : Int), .int .u8 (f.frm.toNat : Int), .int .u8 (f.too.toNat : Int), .int .u32 (f.sess : Int), .int .u32 (f.seq : Int), .int .u8 (f.part.toNat : Int), .int .u32 (f.off : Int), .bool f.last, .slice A6 n c6] 38)
      have hg6 := Blk.new W6 38 #[.int .u8 (f.kind.toNat : Int), .int .u8 (f.frm.toNat : Int), .int .u8 (f.too.toNat : Int), .int .u32 (f.sess : Int), .int .u32 (f.seq : Int), .int .u8 (f.part.toNat : Int), .int .u32 (f.off : Int), .bool f.last, .slice A6 n c6]
      have hrf6 := (hrf5.below hb6).alloc (.cells #[.int .u8 (f.kind.toNat : Int), .int .u8 (f.frm.toNat : Int), .int .u8 (f.too.toNat : Int), .int .u32 (f.sess : Int), .int .u32 (f.seq : Int), .int .u8 (f.part.toNat : Int), .int .u32 (f.off : Int), .bool f.last, .slice A6 n c6] 38)
      have hrg6 := hr6.alloc (.cells #[.int .u8 (f.kind.toNat : Int), .int .u8 (f.frm.toNat : Int), .int .u8 (f.too.toNat : Int), .int .u32 (f.sess : Int), .int .u32 (f.seq : Int), .int .u8 (f.part.toNat : Int), .int .u32 (f.off : Int), .bool f.last, .slice A6 n c6] 38)
      have hs6 : w.heap.size ≤ W6.heap.size := by have := hb6.size; omega
      clear hb6 HB5 hf5 hrf5 hr5 hr6 HD HF
      obtain ⟨y0, y1, y2, y3, y4, y5, y6, y7, y8⟩ := frCells hf6
      obtain ⟨z0, z1, z2, z3, z4, z5, z6, z7, z8⟩ := frCells hg6
      have hle : decide ((m : Int) ≤ (n : Int) + 26) = true := by simp; omega
      have hwn : IntKind.i64.wrap ((n : Int) + 26) = (n : Int) + 26 := IntWalk.i64_in _ ⟨by omega, by omega⟩
      go_wp2_with fail
      generalize W6.alloc (.cells #[.int .u8 (f.kind.toNat : Int), .int .u8 (f.frm.toNat : Int), .int .u8 (f.too.toNat : Int), .int .u32 (f.sess : Int), .int .u32 (f.seq : Int), .int .u8 (f.part.toNat : Int), .int .u32 (f.off : Int), .bool f.last, .slice A6 n c6] 38) = W7 at HB6 hf6 hg6 hrf6 hrg6 y0 y1 y2 y3 y4 y5 y6 y7 y8 z0 z1 z2 z3 z4 z5 z6 z7 z8 ⊢
      have hsm := fsame_calls f f A A6 n n c c6 _ _ W7 HN.out HN.out hrf6 hrg6
      rw [sameF_refl] at hsm
      refine hsm.mono ?_
      rintro r W8 ⟨rfl, hb8⟩
      have hs7 := HB6.out.size
      have HB8 := Lib.hid (HB6.out.trans (hb8.mono hs7))
      have hs8 := HB8.out.size
      have q8 := (hf6.below hb8 hf6.lt).cell 8
      simp at q8
      clear hsm hb8 HB6 hf6 hg6 hrf6 hrg6 y0 y1 y2 y3 y4 y5 y6 y7 y8 z0 z1 z2 z3 z4 z5 z6 z7 z8 hc6 hc5
      go_wp2_with (go_at_call 10; refine (hal _).mono ?_; rintro r W9 ⟨rfl, hb9⟩; have HB9 := Lib.hid hb9; clear hb9)
      go_ret
      exact ⟨rfl, HB8.out.trans (HB9.out.mono hs8)⟩
    · have HF := Lib.hid (encF_bad hcf)
      rw [HF.out]
      dsimp only
      have ht3 : ((checkE f : Int) != 0) = true := by simp; omega
      have hs9 := HB5.out.size
      go_wp2_with (go_at_call 10; refine (hal _).mono ?_; rintro r W9 ⟨rfl, hb9⟩; have HB9 := Lib.hid hb9; clear hb9)
      go_ret
      exact ⟨rfl, HB5.out.trans (HB9.out.mono hs9)⟩
  · have ht1 : ((e : Int) == 0) = false := by simp; omega
    clear hD he
    have hf4 := hf1.alloc (.cells #[.int .u8 (g.kind.toNat : Int), .int .u8 (g.frm.toNat : Int), .int .u8 (g.too.toNat : Int), .int .u32 (g.sess : Int), .int .u32 (g.seq : Int), .int .u8 (g.part.toNat : Int), .int .u32 (g.off : Int), .bool g.last, .slice A1 g.data.length c1] 38)
    have hrf4 := hrf1.alloc (.cells #[.int .u8 (g.kind.toNat : Int), .int .u8 (g.frm.toNat : Int), .int .u8 (g.too.toNat : Int), .int .u32 (g.sess : Int), .int .u32 (g.seq : Int), .int .u8 (g.part.toNat : Int), .int .u32 (g.off : Int), .bool g.last, .slice A1 g.data.length c1] 38)
    have HB4 := Lib.hid (HB1.out.alloc (by omega) (.cells #[.int .u8 (g.kind.toNat : Int), .int .u8 (g.frm.toNat : Int), .int .u8 (g.too.toNat : Int), .int .u32 (g.sess : Int), .int .u32 (g.seq : Int), .int .u8 (g.part.toNat : Int), .int .u32 (g.off : Int), .bool g.last, .slice A1 g.data.length c1] 38))
    have hs4 : (W1.alloc (.cells #[.int .u8 (g.kind.toNat : Int), .int .u8 (g.frm.toNat : Int), .int .u8 (g.too.toNat : Int), .int .u32 (g.sess : Int), .int .u32 (g.seq : Int), .int .u8 (g.part.toNat : Int), .int .u32 (g.off : Int), .bool g.last, .slice A1 g.data.length c1] 38)).heap.size = W1.heap.size + 1 := World.size_alloc _ _
    clear hr1 hf1 hrf1 hrb1 HB1
    obtain ⟨y0, y1, y2, y3, y4, y5, y6, y7, y8⟩ := frCells hf4
    go_wp2_with fail
    clear y0 y1 y2 y3 y4 y5 y6 y7 y8
    generalize W1.alloc (.cells #[.int .u8 (g.kind.toNat : Int), .int .u8 (g.frm.toNat : Int), .int .u8 (g.too.toNat : Int), .int .u32 (g.sess : Int), .int .u32 (g.seq : Int), .int .u8 (g.part.toNat : Int), .int .u32 (g.off : Int), .bool g.last, .slice A1 g.data.length c1] 38) = W4 at hf4 hrf4 HB4 hs4 ⊢
    refine (encode_calls f A n c HN.out _ hs (fun _ => ⟨_, hrf4⟩)).mono ?_
    rintro r W5 ⟨A5, c5, rfl, hc5, hr5, hb5⟩
    have HB5 := Lib.hid (HB4.out.trans (hb5.mono (by omega)))
    have hf5 := hf4.below hb5 (by omega)
    have hrf5 := hrf4.below hb5
    have hs5 := hb5.size
    clear hb5 HB4 hf4 hrf4
    by_cases hcf : checkE f = 0
    · have HF := Lib.hid (encF_good hcf)
      have hlen := encS_length f hs hcf
      rw [HN.out] at hlen
      have HD := Lib.hid (decF_enc f hs hcf)
      rw [HF.out] at hr5 hc5 ⊢
      dsimp only at hr5 hc5 ⊢
      have ht3 : (((0 : Nat) : Int) != 0) = false := by simp
      obtain ⟨m, hm⟩ : ∃ m, (encS f).length = m := ⟨_, rfl⟩
      have HM := Lib.hid hm
      rw [hm] at hlen hc5 ⊢
      clear hm
      go_wp2_with fail
      refine (decode_calls A5 (encS f) m c5 _ W5 HM.out hc5 (by omega) hr5).mono ?_
      rw [HD.out]
      dsimp only
      rw [HN.out]
      rintro r W6 ⟨A6, c6, rfl, hc6, hr6, hb6⟩
      have HB6 := Lib.hid ((HB5.out.trans (hb6.mono (by omega))).alloc (by have := hb6.size; omega) (.cells #[.int .u8 (f.kind.toNat : Int), .int .u8 (f.frm.toNat : Int), .int .u8 (f.too.toNat : Int), .int .u32 (f.sess : Int), .int .u32 (f.seq : Int), .int .u8 (f.part.toNat : Int), .int .u32 (f.off : Int), .bool f.last, .slice A6 n c6] 38))
      have hf6 := (hf5.below hb6 (by omega)).alloc (.cells #[.int .u8 (f.kind.toNat : Int), .int .u8 (f.frm.toNat : Int), .int .u8 (f.too.toNat : Int), .int .u32 (f.sess : Int), .int .u32 (f.seq : Int), .int .u8 (f.part.toNat : Int), .int .u32 (f.off : Int), .bool f.last, .slice A6 n c6] 38)
      have hg6 := Blk.new W6 38 #[.int .u8 (f.kind.toNat : Int), .int .u8 (f.frm.toNat : Int), .int .u8 (f.too.toNat : Int), .int .u32 (f.sess : Int), .int .u32 (f.seq : Int), .int .u8 (f.part.toNat : Int), .int .u32 (f.off : Int), .bool f.last, .slice A6 n c6]
      have hrf6 := (hrf5.below hb6).alloc (.cells #[.int .u8 (f.kind.toNat : Int), .int .u8 (f.frm.toNat : Int), .int .u8 (f.too.toNat : Int), .int .u32 (f.sess : Int), .int .u32 (f.seq : Int), .int .u8 (f.part.toNat : Int), .int .u32 (f.off : Int), .bool f.last, .slice A6 n c6] 38)
      have hrg6 := hr6.alloc (.cells #[.int .u8 (f.kind.toNat : Int), .int .u8 (f.frm.toNat : Int), .int .u8 (f.too.toNat : Int), .int .u32 (f.sess : Int), .int .u32 (f.seq : Int), .int .u8 (f.part.toNat : Int), .int .u32 (f.off : Int), .bool f.last, .slice A6 n c6] 38)
      have hs6 : w.heap.size ≤ W6.heap.size := by have := hb6.size; omega
      clear hb6 HB5 hf5 hrf5 hr5 hr6 HD HF
      obtain ⟨y0, y1, y2, y3, y4, y5, y6, y7, y8⟩ := frCells hf6
      obtain ⟨z0, z1, z2, z3, z4, z5, z6, z7, z8⟩ := frCells hg6
      have hle : decide ((m : Int) ≤ (n : Int) + 26) = true := by simp; omega
      have hwn : IntKind.i64.wrap ((n : Int) + 26) = (n : Int) + 26 := IntWalk.i64_in _ ⟨by omega, by omega⟩
      go_wp2_with fail
      generalize W6.alloc (.cells #[.int .u8 (f.kind.toNat : Int), .int .u8 (f.frm.toNat : Int), .int .u8 (f.too.toNat : Int), .int .u32 (f.sess : Int), .int .u32 (f.seq : Int), .int .u8 (f.part.toNat : Int), .int .u32 (f.off : Int), .bool f.last, .slice A6 n c6] 38) = W7 at HB6 hf6 hg6 hrf6 hrg6 y0 y1 y2 y3 y4 y5 y6 y7 y8 z0 z1 z2 z3 z4 z5 z6 z7 z8 ⊢
      have hsm := fsame_calls f f A A6 n n c c6 _ _ W7 HN.out HN.out hrf6 hrg6
      rw [sameF_refl] at hsm
      refine hsm.mono ?_
      rintro r W8 ⟨rfl, hb8⟩
      have hs7 := HB6.out.size
      have HB8 := Lib.hid (HB6.out.trans (hb8.mono hs7))
      have hs8 := HB8.out.size
      have q8 := (hf6.below hb8 hf6.lt).cell 8
      simp at q8
      clear hsm hb8 HB6 hf6 hg6 hrf6 hrg6 y0 y1 y2 y3 y4 y5 y6 y7 y8 z0 z1 z2 z3 z4 z5 z6 z7 z8 hc6 hc5
      go_wp2_with (go_at_call 10; refine (hal _).mono ?_; rintro r W9 ⟨rfl, hb9⟩; have HB9 := Lib.hid hb9; clear hb9)
      go_ret
      exact ⟨rfl, HB8.out.trans (HB9.out.mono hs8)⟩
    · have HF := Lib.hid (encF_bad hcf)
      rw [HF.out]
      dsimp only
      have ht3 : ((checkE f : Int) != 0) = true := by simp; omega
      have hs9 := HB5.out.size
      go_wp2_with (go_at_call 10; refine (hal _).mono ?_; rintro r W9 ⟨rfl, hb9⟩; have HB9 := Lib.hid hb9; clear hb9)
      go_ret
      exact ⟨rfl, HB5.out.trans (HB9.out.mono hs9)⟩
set_option maxRecDepth 100000 in
theorem back_big (f : Fr) (A B : Option Addr) (n c nb cb : Nat) (w : World) (h : 200 < n ∨ 500 < nb) :
    Calls Try.prog 6 #[.agg #[.int .u8 (f.kind.toNat : Int), .int .u8 (f.frm.toNat : Int), .int .u8 (f.too.toNat : Int), .int .u32 (f.sess : Int), .int .u32 (f.seq : Int), .int .u8 (f.part.toNat : Int), .int .u32 (f.off : Int), .bool f.last, .slice A n c], .slice B nb cb] w fun r w' => r = .returned (.bool true) ∧ Below w.heap.size w w' := by
  have hB0 : Below w.heap.size w (w.alloc (.cells #[.int .u8 (f.kind.toNat : Int), .int .u8 (f.frm.toNat : Int), .int .u8 (f.too.toNat : Int), .int .u32 (f.sess : Int), .int .u32 (f.seq : Int), .int .u8 (f.part.toNat : Int), .int .u32 (f.off : Int), .bool f.last, .slice A n c] 38)) := (Below.refl _ _).alloc (Nat.le_refl _) _
  have hal := fun W => alive27_calls W
  have h3 : decide ((n : Int) > 200) = true ∨ (decide ((n : Int) > 200) = false ∧ decide ((nb : Int) > 500) = true) := by
    simp only [decide_eq_true_eq, decide_eq_false_iff_not]
    omega
  clear h
  rcases h3 with hd | ⟨hd, hd5⟩ <;>
  · go_enter Try.func6, Try.ntmps6
    go_wp2_with (go_at_call 10; refine (hal _).mono ?_; rintro r W8 ⟨rfl, hb8⟩; have HB8 := Lib.hid hb8; clear hb8)
    go_ret
    exact ⟨rfl, hB0.trans (HB8.out.mono (by simp))⟩
end Go.Proofs.Ytogdbccfkbbcaaa
