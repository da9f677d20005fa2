/- The walk: FrameCodes (layer 27). -/
import Derived.Test.YtogdbccfkbbcaaaRefE
import Derived.Test.YtogdbccfkbbcaaaAlive27
import Derived.Deep.RegionHeld3
namespace Go.Proofs.Ytogdbccfkbbcaaa
open Go.RowKit
set_option linter.unusedSimpArgs false
/-- What holds behind the two encodings: the frames' blocks (at B, at B + 1), their data, the two codes. -/
structure Cd (f g : Fr) (A A' : Option Addr) (n n' c c' : Nat) (P Q : Option Addr) (L : List UInt8) (w0 w : World) : Prop where
  bf : Blk w w0.heap.size 38 #[.int .u8 (f.kind.toNat : Int), .int .u8 (f.frm.toNat : Int), .int .u8 (f.too.toNat : Int), .int .u32 (f.sess : Int), .int .u32 (f.seq : Int), .int .u8 (f.part.toNat : Int), .int .u32 (f.off : Int), .bool f.last, .slice A n c]
  bg : Blk w (w0.heap.size + 1) 38 #[.int .u8 (g.kind.toNat : Int), .int .u8 (g.frm.toNat : Int), .int .u8 (g.too.toNat : Int), .int .u32 (g.sess : Int), .int .u32 (g.seq : Int), .int .u8 (g.part.toNat : Int), .int .u32 (g.off : Int), .bool g.last, .slice A' n' c']
  rf : Rd B8 w (fun _ => True) A f.data
  rg : Rd B8 w (fun _ => True) A' g.data
  rp : Rd B8 w (fun _ => True) P L
  rq : Rd B8 w (fun _ => True) Q L
  bel : Below w0.heap.size w0 w
  len : f.data.length = n
  len' : g.data.length = n'
  big : n ≤ 200 ∧ n' ≤ 200
  small : Small f
theorem Cd.step {f g : Fr} {A A' : Option Addr} {n n' c c' : Nat} {P Q : Option Addr} {L : List UInt8} {w0 w w' : World} (h : Cd f g A A' n n' c c' P Q L w0 w) (hb : Below w.heap.size w w') : Cd f g A A' n n' c c' P Q L w0 w' :=
  ⟨h.bf.below hb h.bf.lt, h.bg.below hb h.bg.lt, h.rf.below hb, h.rg.below hb, h.rp.below hb, h.rq.below hb, h.bel.trans (hb.mono h.bel.size), h.len, h.len', h.big, h.small⟩
section
variable {f g : Fr} {A A' : Option Addr} {n n' c c' : Nat} {P Q : Option Addr} {L : List UInt8} {w0 w : World}
theorem Cd.cells (h : Cd f g A A' n n' c c' P Q L w0 w) :
    (w.cell? ⟨w0.heap.size, 0, none⟩ = some (.int .u8 (f.kind.toNat : Int)) ∧ w.cell? ⟨w0.heap.size, 1, none⟩ = some (.int .u8 (f.frm.toNat : Int)) ∧ w.cell? ⟨w0.heap.size, 2, none⟩ = some (.int .u8 (f.too.toNat : Int)) ∧ w.cell? ⟨w0.heap.size, 3, none⟩ = some (.int .u32 (f.sess : Int)) ∧ w.cell? ⟨w0.heap.size, 4, none⟩ = some (.int .u32 (f.seq : Int)) ∧
    w.cell? ⟨w0.heap.size, 5, none⟩ = some (.int .u8 (f.part.toNat : Int)) ∧ w.cell? ⟨w0.heap.size, 6, none⟩ = some (.int .u32 (f.off : Int)) ∧ w.cell? ⟨w0.heap.size, 7, none⟩ = some (.bool f.last) ∧ w.cell? ⟨w0.heap.size, 8, none⟩ = some (.slice A n c)) ∧
    (w.cell? ⟨w0.heap.size + 1, 0, none⟩ = some (.int .u8 (g.kind.toNat : Int)) ∧ w.cell? ⟨w0.heap.size + 1, 1, none⟩ = some (.int .u8 (g.frm.toNat : Int)) ∧ w.cell? ⟨w0.heap.size + 1, 2, none⟩ = some (.int .u8 (g.too.toNat : Int)) ∧ w.cell? ⟨w0.heap.size + 1, 3, none⟩ = some (.int .u32 (g.sess : Int)) ∧ w.cell? ⟨w0.heap.size + 1, 4, none⟩ = some (.int .u32 (g.seq : Int)) ∧
    w.cell? ⟨w0.heap.size + 1, 5, none⟩ = some (.int .u8 (g.part.toNat : Int)) ∧ w.cell? ⟨w0.heap.size + 1, 6, none⟩ = some (.int .u32 (g.off : Int)) ∧ w.cell? ⟨w0.heap.size + 1, 7, none⟩ = some (.bool g.last) ∧ w.cell? ⟨w0.heap.size + 1, 8, none⟩ = some (.slice A' n' c')) := ⟨frCells h.bf, frCells h.bg⟩
theorem cd_same (h : Cd f g A A' n n' c c' P Q L w0 w) (m p q : Nat) (hm : L.length = m) (hb : m ≤ 1000000) :
    Calls Try.prog 15 #[.slice P m p, .slice Q m q] w fun r w' => r = .returned (.bool true) ∧ Cd f g A A' n n' c c' P Q L w0 w' := by
  have hs := same_calls P Q L L m m p q _ _ w hm hm hb h.rp h.rq
  rw [show (L == L) = true from by simp] at hs
  exact hs.mono fun _ _ ⟨h1, h2⟩ => ⟨h1, h.step h2⟩
theorem cd_check (h : Cd f g A A' n n' c c' P Q L w0 w) :
    Calls Try.prog 18 #[.agg #[.int .u8 (f.kind.toNat : Int), .int .u8 (f.frm.toNat : Int), .int .u8 (f.too.toNat : Int), .int .u32 (f.sess : Int), .int .u32 (f.seq : Int), .int .u8 (f.part.toNat : Int), .int .u32 (f.off : Int), .bool f.last, .slice A n c]] w fun r w' => r = .returned (.int .i64 (checkE f : Int)) ∧ Cd f g A A' n n' c c' P Q L w0 w' :=
  (check_calls f A n c h.len w).mono fun _ _ ⟨h1, h2⟩ => ⟨h1, h.step h2⟩
theorem cd_rcheck (h : Cd f g A A' n n' c c' P Q L w0 w) :
    Calls Try.prog 19 #[.agg #[.int .u8 (f.kind.toNat : Int), .int .u8 (f.frm.toNat : Int), .int .u8 (f.too.toNat : Int), .int .u32 (f.sess : Int), .int .u32 (f.seq : Int), .int .u8 (f.part.toNat : Int), .int .u32 (f.off : Int), .bool f.last, .slice A n c]] w fun r w' => r = .returned (.int .i64 (checkE f : Int)) ∧ Cd f g A A' n n' c c' P Q L w0 w' :=
  (rcheck_calls f A n c h.len w).mono fun _ _ ⟨h1, h2⟩ => ⟨h1, h.step h2⟩
theorem cd_size (h : Cd f g A A' n n' c c' P Q L w0 w) (m : Nat) (hm : (encF f).1.length = m) :
    Calls Try.prog 20 #[.agg #[.int .u8 (f.kind.toNat : Int), .int .u8 (f.frm.toNat : Int), .int .u8 (f.too.toNat : Int), .int .u32 (f.sess : Int), .int .u32 (f.seq : Int), .int .u8 (f.part.toNat : Int), .int .u32 (f.off : Int), .bool f.last, .slice A n c]] w fun r w' => r = .returned (.int .i64 (m : Int)) ∧ Cd f g A A' n n' c c' P Q L w0 w' := by
  subst hm
  exact (size_frame_calls f A n c h.len w h.small h.rf).mono fun _ _ ⟨h1, h2⟩ => ⟨h1, h.step h2⟩
theorem cd_room (h : Cd f g A A' n n' c c' P Q L w0 w) (b R : Int) (hR : (if b < 32 then 0 else min (b - 26) 65536) = R) (h1 : -9223372036854775808 ≤ b) (h2 : b ≤ 9223372036854775807) :
    Calls Try.prog 21 #[.int .i64 b] w fun r w' => r = .returned (.int .i64 R) ∧ Cd f g A A' n n' c c' P Q L w0 w' := by
  subst hR
  exact (room_calls b w h1 h2).mono fun _ _ ⟨h1, h2⟩ => ⟨h1, h2 ▸ h⟩
theorem cd_rroom (h : Cd f g A A' n n' c c' P Q L w0 w) (b R : Int) (hR : (if b < 32 then 0 else min (b - 26) 65536) = R) (h1 : -9223372036854775808 ≤ b) (h2 : b ≤ 9223372036854775807) :
    Calls Try.prog 22 #[.int .i64 b] w fun r w' => r = .returned (.int .i64 R) ∧ Cd f g A A' n n' c c' P Q L w0 w' := by
  subst hR
  exact (rroom_calls b w h1 h2).mono fun _ _ ⟨h1, h2⟩ => ⟨h1, h2 ▸ h⟩
theorem cd_fsame (h : Cd f g A A' n n' c c' P Q L w0 w) (D : Bool) (hD : sameF f g = D) :
    Calls Try.prog 16 #[.agg #[.int .u8 (f.kind.toNat : Int), .int .u8 (f.frm.toNat : Int), .int .u8 (f.too.toNat : Int), .int .u32 (f.sess : Int), .int .u32 (f.seq : Int), .int .u8 (f.part.toNat : Int), .int .u32 (f.off : Int), .bool f.last, .slice A n c], .agg #[.int .u8 (g.kind.toNat : Int), .int .u8 (g.frm.toNat : Int), .int .u8 (g.too.toNat : Int), .int .u32 (g.sess : Int), .int .u32 (g.seq : Int), .int .u8 (g.part.toNat : Int), .int .u32 (g.off : Int), .bool g.last, .slice A' n' c']] w fun r w' => r = .returned (.bool D) ∧ Cd f g A A' n n' c c' P Q L w0 w' := by
  subst hD
  exact (fsame_calls f g A A' n n' c c' _ _ w h.len h.len' h.rf h.rg).mono fun _ _ ⟨h1, h2⟩ => ⟨h1, h.step h2⟩
theorem cd_rfsame (h : Cd f g A A' n n' c c' P Q L w0 w) (D : Bool) (hD : sameF f g = D) :
    Calls Try.prog 13 #[.agg #[.int .u8 (f.kind.toNat : Int), .int .u8 (f.frm.toNat : Int), .int .u8 (f.too.toNat : Int), .int .u32 (f.sess : Int), .int .u32 (f.seq : Int), .int .u8 (f.part.toNat : Int), .int .u32 (f.off : Int), .bool f.last, .slice A n c], .agg #[.int .u8 (g.kind.toNat : Int), .int .u8 (g.frm.toNat : Int), .int .u8 (g.too.toNat : Int), .int .u32 (g.sess : Int), .int .u32 (g.seq : Int), .int .u8 (g.part.toNat : Int), .int .u32 (g.off : Int), .bool g.last, .slice A' n' c']] w fun r w' => r = .returned (.bool D) ∧ Cd f g A A' n n' c c' P Q L w0 w' := by
  subst hD
  exact (rfsame_calls f g A A' n n' c c' _ _ w h.len h.len' (by have := h.big; omega) h.rf h.rg).mono fun _ _ ⟨h1, h2⟩ => ⟨h1, h.step h2⟩
theorem cd_self (h : Cd f g A A' n n' c c' P Q L w0 w) :
    Calls Try.prog 16 #[.agg #[.int .u8 (f.kind.toNat : Int), .int .u8 (f.frm.toNat : Int), .int .u8 (f.too.toNat : Int), .int .u32 (f.sess : Int), .int .u32 (f.seq : Int), .int .u8 (f.part.toNat : Int), .int .u32 (f.off : Int), .bool f.last, .slice A n c], .agg #[.int .u8 (f.kind.toNat : Int), .int .u8 (f.frm.toNat : Int), .int .u8 (f.too.toNat : Int), .int .u32 (f.sess : Int), .int .u32 (f.seq : Int), .int .u8 (f.part.toNat : Int), .int .u32 (f.off : Int), .bool f.last, .slice A n c]] w fun r w' => r = .returned (.bool true) ∧ Cd f g A A' n n' c c' P Q L w0 w' := by
  have hs := fsame_calls f f A A n n c c _ _ w h.len h.len h.rf h.rf
  rw [sameF_refl] at hs
  exact hs.mono fun _ _ ⟨h1, h2⟩ => ⟨h1, h.step h2⟩
theorem cd_alive (h : Cd f g A A' n n' c c' P Q L w0 w) :
    Calls Try.prog 10 #[] w fun r w' => r = .returned (.bool true) ∧ Cd f g A A' n n' c c' P Q L w0 w' :=
  (alive27_calls w).mono fun _ _ ⟨h1, h2⟩ => ⟨h1, h.step h2⟩
end
set_option maxHeartbeats 8000000 in
set_option maxRecDepth 100000 in
theorem codes_walk (f g : Fr) (A A' : Option Addr) (n n' c c' : Nat) (b : Int) (S S' : Nat → Prop) (w : World) (hn : f.data.length = n) (hn' : g.data.length = n') (hs : Small f)
    (hr : Rd B8 w S A f.data) (hr' : Rd B8 w S' A' g.data) (hb1 : -9223372036854775808 ≤ b) (hb2 : b ≤ 9223372036854775807) (h200 : n ≤ 200) (h200' : n' ≤ 200) :
    Calls Try.prog 7 #[.agg #[.int .u8 (f.kind.toNat : Int), .int .u8 (f.frm.toNat : Int), .int .u8 (f.too.toNat : Int), .int .u32 (f.sess : Int), .int .u32 (f.seq : Int), .int .u8 (f.part.toNat : Int), .int .u32 (f.off : Int), .bool f.last, .slice A n c], .agg #[.int .u8 (g.kind.toNat : Int), .int .u8 (g.frm.toNat : Int), .int .u8 (g.too.toNat : Int), .int .u32 (g.sess : Int), .int .u32 (g.seq : Int), .int .u8 (g.part.toNat : Int), .int .u32 (g.off : Int), .bool g.last, .slice A' n' c'], .int .i64 b] w fun r w' => r = .returned (.bool true) ∧ Below w.heap.size w w' := by
  have hbf := (Blk.new w 38 #[.int .u8 (f.kind.toNat : Int), .int .u8 (f.frm.toNat : Int), .int .u8 (f.too.toNat : Int), .int .u32 (f.sess : Int), .int .u32 (f.seq : Int), .int .u8 (f.part.toNat : Int), .int .u32 (f.off : Int), .bool f.last, .slice A n c]).alloc (.cells #[.int .u8 (g.kind.toNat : Int), .int .u8 (g.frm.toNat : Int), .int .u8 (g.too.toNat : Int), .int .u32 (g.sess : Int), .int .u32 (g.seq : Int), .int .u8 (g.part.toNat : Int), .int .u32 (g.off : Int), .bool g.last, .slice A' n' c'] 38)
  have hbg := Blk.new (w.alloc (.cells #[.int .u8 (f.kind.toNat : Int), .int .u8 (f.frm.toNat : Int), .int .u8 (f.too.toNat : Int), .int .u32 (f.sess : Int), .int .u32 (f.seq : Int), .int .u8 (f.part.toNat : Int), .int .u32 (f.off : Int), .bool f.last, .slice A n c] 38)) 38 #[.int .u8 (g.kind.toNat : Int), .int .u8 (g.frm.toNat : Int), .int .u8 (g.too.toNat : Int), .int .u32 (g.sess : Int), .int .u32 (g.seq : Int), .int .u8 (g.part.toNat : Int), .int .u32 (g.off : Int), .bool g.last, .slice A' n' c']
  rw [World.size_alloc] at hbg
  have hrf := (hr.alloc (.cells #[.int .u8 (f.kind.toNat : Int), .int .u8 (f.frm.toNat : Int), .int .u8 (f.too.toNat : Int), .int .u32 (f.sess : Int), .int .u32 (f.seq : Int), .int .u8 (f.part.toNat : Int), .int .u32 (f.off : Int), .bool f.last, .slice A n c] 38)).alloc (.cells #[.int .u8 (g.kind.toNat : Int), .int .u8 (g.frm.toNat : Int), .int .u8 (g.too.toNat : Int), .int .u32 (g.sess : Int), .int .u32 (g.seq : Int), .int .u8 (g.part.toNat : Int), .int .u32 (g.off : Int), .bool g.last, .slice A' n' c'] 38)
  have hrg := (hr'.alloc (.cells #[.int .u8 (f.kind.toNat : Int), .int .u8 (f.frm.toNat : Int), .int .u8 (f.too.toNat : Int), .int .u32 (f.sess : Int), .int .u32 (f.seq : Int), .int .u8 (f.part.toNat : Int), .int .u32 (f.off : Int), .bool f.last, .slice A n c] 38)).alloc (.cells #[.int .u8 (g.kind.toNat : Int), .int .u8 (g.frm.toNat : Int), .int .u8 (g.too.toNat : Int), .int .u32 (g.sess : Int), .int .u32 (g.seq : Int), .int .u8 (g.part.toNat : Int), .int .u32 (g.off : Int), .bool g.last, .slice A' n' c'] 38)
  have hB0 : Below w.heap.size w ((w.alloc (.cells #[.int .u8 (f.kind.toNat : Int), .int .u8 (f.frm.toNat : Int), .int .u8 (f.too.toNat : Int), .int .u32 (f.sess : Int), .int .u32 (f.seq : Int), .int .u8 (f.part.toNat : Int), .int .u32 (f.off : Int), .bool f.last, .slice A n c] 38)).alloc (.cells #[.int .u8 (g.kind.toNat : Int), .int .u8 (g.frm.toNat : Int), .int .u8 (g.too.toNat : Int), .int .u32 (g.sess : Int), .int .u32 (g.seq : Int), .int .u8 (g.part.toNat : Int), .int .u32 (g.off : Int), .bool g.last, .slice A' n' c'] 38)) := ((Below.refl _ _).alloc (Nat.le_refl _) _).alloc (by simp) _
  have hs0 : ((w.alloc (.cells #[.int .u8 (f.kind.toNat : Int), .int .u8 (f.frm.toNat : Int), .int .u8 (f.too.toNat : Int), .int .u32 (f.sess : Int), .int .u32 (f.seq : Int), .int .u8 (f.part.toNat : Int), .int .u32 (f.off : Int), .bool f.last, .slice A n c] 38)).alloc (.cells #[.int .u8 (g.kind.toNat : Int), .int .u8 (g.frm.toNat : Int), .int .u8 (g.too.toNat : Int), .int .u32 (g.sess : Int), .int .u32 (g.seq : Int), .int .u8 (g.part.toNat : Int), .int .u32 (g.off : Int), .bool g.last, .slice A' n' c'] 38)).heap.size = w.heap.size + 2 := by simp
  have hd1 : decide ((n : Int) > 200) = false := by simp; omega
  have hd2 : decide ((n' : Int) > 200) = false := by simp; omega
  obtain ⟨y0, y1, y2, y3, y4, y5, y6, y7, y8⟩ := frCells hbf
  obtain ⟨z0, z1, z2, z3, z4, z5, z6, z7, z8⟩ := frCells hbg
  have HN := Lib.hid hn
  have HN' := Lib.hid hn'
  clear hn hn' hr hr'
  go_enter Try.func7, Try.ntmps7
  go_wp2_with fail
  clear y0 y1 y2 y3 y4 y5 y6 y7 y8 z0 z1 z2 z3 z4 z5 z6 z7 z8
  generalize (w.alloc (.cells #[.int .u8 (f.kind.toNat : Int), .int .u8 (f.frm.toNat : Int), .int .u8 (f.too.toNat : Int), .int .u32 (f.sess : Int), .int .u32 (f.seq : Int), .int .u8 (f.part.toNat : Int), .int .u32 (f.off : Int), .bool f.last, .slice A n c] 38)).alloc (.cells #[.int .u8 (g.kind.toNat : Int), .int .u8 (g.frm.toNat : Int), .int .u8 (g.too.toNat : Int), .int .u32 (g.sess : Int), .int .u32 (g.seq : Int), .int .u8 (g.part.toNat : Int), .int .u32 (g.off : Int), .bool g.last, .slice A' n' c'] 38) = W0 at hbf hbg hrf hrg hB0 hs0 ⊢
  refine (encode_calls f A n c HN.out W0 hs (fun _ => ⟨_, hrf⟩)).mono ?_
  rintro r W1 ⟨A1, c1, rfl, hc1, hr1, h1⟩
  have hbf1 := hbf.below h1 (by omega)
  have hbg1 := hbg.below h1 (by omega)
  have hrf1 := hrf.below h1
  have hrg1 := hrg.below h1
  have hB1 := hB0.trans (h1.mono (by omega))
  have hs1 := h1.size
  clear h1 hbf hbg hrf hrg hB0
  obtain ⟨y0, y1, y2, y3, y4, y5, y6, y7, y8⟩ := frCells hbf1
  go_wp2_with fail
  clear y0 y1 y2 y3 y4 y5 y6 y7 y8
  refine (rencode_calls f A n c HN.out W1 hs (fun _ => ⟨_, hrf1⟩)).mono ?_
  rintro r W2 ⟨A2, c2, rfl, hc2, hr2, h2⟩
  have hle : (encF f).1.length ≤ 1000000 := by
    by_cases he : checkE f = 0
    · rw [encF_good he]
      have := encS_length f hs he
      have := HN.out
      show (encS f).length ≤ 1000000
      omega
    · rw [encF_bad he]; simp
  have hst : Cd f g A A' n n' c c' A1 A2 (encF f).1 w W2 :=
    ⟨hbf1.below h2 (by omega), hbg1.below h2 (by omega), (hrf1.below h2).weaken (fun _ _ => trivial), (hrg1.below h2).weaken (fun _ _ => trivial), (hr1.below h2).weaken (fun _ _ => trivial), hr2.weaken (fun _ _ => trivial), hB1.trans (h2.mono (by omega)), HN.out, HN'.out, ⟨h200, h200'⟩, hs⟩
  have hst := hst.step (below_drewN (Below.refl _ _) 1)
  obtain ⟨m, hm⟩ : ∃ m, (encF f).1.length = m := ⟨_, rfl⟩
  obtain ⟨e, he⟩ : ∃ e, (encF f).2 = e := ⟨_, rfl⟩
  obtain ⟨D, hD⟩ : ∃ D, sameF f g = D := ⟨_, rfl⟩
  rw [hm, he]
  rw [hm] at hle
  obtain ⟨R, hR⟩ : ∃ R, (if b < 32 then 0 else min (b - 26) 65536) = R := ⟨_, rfl⟩
  have HR := Lib.hid hR
  clear hR
  have HM := Lib.hid hm
  have HD := Lib.hid hD
  have HS := Lib.hid hs
  clear h2 hbf1 hbg1 hrf1 hrg1 hr1 hr2 hB1 he hc1 hc2 hs0 hs1 hm hD hs
  go_wp2_with fail
  go_region_held3 (fun w' => ((w'.cell? ⟨w.heap.size, 0, none⟩ = some (.int .u8 (f.kind.toNat : Int)) ∧ w'.cell? ⟨w.heap.size, 1, none⟩ = some (.int .u8 (f.frm.toNat : Int)) ∧ w'.cell? ⟨w.heap.size, 2, none⟩ = some (.int .u8 (f.too.toNat : Int)) ∧ w'.cell? ⟨w.heap.size, 3, none⟩ = some (.int .u32 (f.sess : Int)) ∧ w'.cell? ⟨w.heap.size, 4, none⟩ = some (.int .u32 (f.seq : Int)) ∧
    w'.cell? ⟨w.heap.size, 5, none⟩ = some (.int .u8 (f.part.toNat : Int)) ∧ w'.cell? ⟨w.heap.size, 6, none⟩ = some (.int .u32 (f.off : Int)) ∧ w'.cell? ⟨w.heap.size, 7, none⟩ = some (.bool f.last) ∧ w'.cell? ⟨w.heap.size, 8, none⟩ = some (.slice A n c)) ∧
    (w'.cell? ⟨w.heap.size + 1, 0, none⟩ = some (.int .u8 (g.kind.toNat : Int)) ∧ w'.cell? ⟨w.heap.size + 1, 1, none⟩ = some (.int .u8 (g.frm.toNat : Int)) ∧ w'.cell? ⟨w.heap.size + 1, 2, none⟩ = some (.int .u8 (g.too.toNat : Int)) ∧ w'.cell? ⟨w.heap.size + 1, 3, none⟩ = some (.int .u32 (g.sess : Int)) ∧ w'.cell? ⟨w.heap.size + 1, 4, none⟩ = some (.int .u32 (g.seq : Int)) ∧
    w'.cell? ⟨w.heap.size + 1, 5, none⟩ = some (.int .u8 (g.part.toNat : Int)) ∧ w'.cell? ⟨w.heap.size + 1, 6, none⟩ = some (.int .u32 (g.off : Int)) ∧ w'.cell? ⟨w.heap.size + 1, 7, none⟩ = some (.bool g.last) ∧ w'.cell? ⟨w.heap.size + 1, 8, none⟩ = some (.slice A' n' c'))))
    (first | exact Cd.cells hst)
    (first
      | (go_at_call 15; refine (cd_same hst m _ _ HM.out hle).mono ?_; clear hst; rintro r W3 ⟨rfl, hst⟩)
      | (go_at_call 18; refine (cd_check hst).mono ?_; clear hst; rintro r W3 ⟨rfl, hst⟩)
      | (go_at_call 19; refine (cd_rcheck hst).mono ?_; clear hst; rintro r W3 ⟨rfl, hst⟩)
      | (go_at_call 20; refine (cd_size hst m HM.out).mono ?_; clear hst; rintro r W3 ⟨rfl, hst⟩)
      | (go_at_call 21; refine (cd_room hst b R HR.out hb1 hb2).mono ?_; clear hst; rintro r W3 ⟨rfl, hst⟩)
      | (go_at_call 22; refine (cd_rroom hst b R HR.out hb1 hb2).mono ?_; clear hst; rintro r W3 ⟨rfl, hst⟩)
      | (go_at_call 16; with_reducible refine (cd_self hst).mono ?_; clear hst; rintro r W3 ⟨rfl, hst⟩)
      | (go_at_call 16; with_reducible refine (cd_fsame hst D HD.out).mono ?_; clear hst; rintro r W3 ⟨rfl, hst⟩)
      | (go_at_call 13; refine (cd_rfsame hst D HD.out).mono ?_; clear hst; rintro r W3 ⟨rfl, hst⟩)
      | (go_at_call 10; refine (cd_alive hst).mono ?_; clear hst; rintro r W3 ⟨rfl, hst⟩))
  go_wp2
  go_ret
  exact ⟨rfl, hst.bel⟩
set_option maxRecDepth 100000 in
theorem codes_big (f g : Fr) (A A' : Option Addr) (n n' c c' : Nat) (b : Int) (w : World) (h : 200 < n ∨ 200 < n') :
    Calls Try.prog 7 #[.agg #[.int .u8 (f.kind.toNat : Int), .int .u8 (f.frm.toNat : Int), .int .u8 (f.too.toNat : Int), .int .u32 (f.sess : Int), .int .u32 (f.seq : Int), .int .u8 (f.part.toNat : Int), .int .u32 (f.off : Int), .bool f.last, .slice A n c], .agg #[.int .u8 (g.kind.toNat : Int), .int .u8 (g.frm.toNat : Int), .int .u8 (g.too.toNat : Int), .int .u32 (g.sess : Int), .int .u32 (g.seq : Int), .int .u8 (g.part.toNat : Int), .int .u32 (g.off : Int), .bool g.last, .slice A' n' c'], .int .i64 b] w fun r w' => r = .returned (.bool true) ∧ Below w.heap.size w w' := by
  have hbf := (Blk.new w 38 #[.int .u8 (f.kind.toNat : Int), .int .u8 (f.frm.toNat : Int), .int .u8 (f.too.toNat : Int), .int .u32 (f.sess : Int), .int .u32 (f.seq : Int), .int .u8 (f.part.toNat : Int), .int .u32 (f.off : Int), .bool f.last, .slice A n c]).alloc (.cells #[.int .u8 (g.kind.toNat : Int), .int .u8 (g.frm.toNat : Int), .int .u8 (g.too.toNat : Int), .int .u32 (g.sess : Int), .int .u32 (g.seq : Int), .int .u8 (g.part.toNat : Int), .int .u32 (g.off : Int), .bool g.last, .slice A' n' c'] 38)
  have hbg := Blk.new (w.alloc (.cells #[.int .u8 (f.kind.toNat : Int), .int .u8 (f.frm.toNat : Int), .int .u8 (f.too.toNat : Int), .int .u32 (f.sess : Int), .int .u32 (f.seq : Int), .int .u8 (f.part.toNat : Int), .int .u32 (f.off : Int), .bool f.last, .slice A n c] 38)) 38 #[.int .u8 (g.kind.toNat : Int), .int .u8 (g.frm.toNat : Int), .int .u8 (g.too.toNat : Int), .int .u32 (g.sess : Int), .int .u32 (g.seq : Int), .int .u8 (g.part.toNat : Int), .int .u32 (g.off : Int), .bool g.last, .slice A' n' c']
  rw [World.size_alloc] at hbg
  have hB0 : Below w.heap.size w ((w.alloc (.cells #[.int .u8 (f.kind.toNat : Int), .int .u8 (f.frm.toNat : Int), .int .u8 (f.too.toNat : Int), .int .u32 (f.sess : Int), .int .u32 (f.seq : Int), .int .u8 (f.part.toNat : Int), .int .u32 (f.off : Int), .bool f.last, .slice A n c] 38)).alloc (.cells #[.int .u8 (g.kind.toNat : Int), .int .u8 (g.frm.toNat : Int), .int .u8 (g.too.toNat : Int), .int .u32 (g.sess : Int), .int .u32 (g.seq : Int), .int .u8 (g.part.toNat : Int), .int .u32 (g.off : Int), .bool g.last, .slice A' n' c'] 38)) := ((Below.refl _ _).alloc (Nat.le_refl _) _).alloc (by simp) _
  have hw0 := hB0.size
  obtain ⟨_, _, _, _, _, _, _, _, y8⟩ := frCells hbf
  obtain ⟨_, _, _, _, _, _, _, _, z8⟩ := frCells hbg
  have HB0 := Lib.hid hB0
  have hal := fun W => alive27_calls W
  have h3 : decide ((n : Int) > 200) = true ∨ (decide ((n : Int) > 200) = false ∧ decide ((n' : Int) > 200) = true) := by
    simp only [decide_eq_true_eq, decide_eq_false_iff_not]
    omega
  clear h hB0 hbf hbg
  rcases h3 with hd | ⟨hd, hd5⟩ <;>
  · go_enter Try.func7, Try.ntmps7
    go_wp2_with (go_at_call 10; refine (hal _).mono ?_; rintro r W8 ⟨rfl, hb8⟩; have HB8 := Lib.hid hb8; clear hb8)
    go_ret
    exact ⟨rfl, HB0.out.trans (HB8.out.mono hw0)⟩
end Go.Proofs.Ytogdbccfkbbcaaa
