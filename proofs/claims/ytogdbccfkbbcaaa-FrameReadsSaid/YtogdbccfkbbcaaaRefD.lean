/- The walk of the reference's Decode. -/
import Derived.Test.YtogdbccfkbbcaaaRefO
import Derived.Test.YtogdbccfkbbcaaaRefC
import Derived.Test.YtogdbccfkbbcaaaFrameD
import Derived.Test.YtogdbccfkbbcaaaFrameD
import Derived.Test.YtogdbccfkbbcaaaFrameD
import Derived.Test.YtogdbccfkbbcaaaFrameD
namespace Go.Proofs.Ytogdbccfkbbcaaa
open Go.RowKit
set_option linter.unusedSimpArgs false
/-- What holds while the pieces are read: the result's block, the cursor's, the two pieces', the frame's. -/
structure Dc (w W : World) (e : Nat) (l : List UInt8) (cs : Array Value) : Prop where
  br : Blk W w.heap.size 38 #[.int .u8 0, .int .u8 0, .int .u8 0, .int .u32 0, .int .u32 0, .int .u8 0, .int .u32 0, .bool false, .slice none 0 0]
  cur : RCur W w.heap.size (w.heap.size + 1) e l
  one : Blk W (w.heap.size + 1 + 1) 71 #[.int .i64 1, .int .u64 0, .int .u8 0, .int .u8 0, .int .u8 0, .int .u8 0, .int .u8 0, .int .u8 0, .int .u8 0, .int .u8 0, .int .u8 0, (.slice none 0 0), .int .i64 0]
  num : Blk W (w.heap.size + 1 + 1 + 1) 71 #[.int .i64 0, .int .u64 4294967295, .int .u8 0, .int .u8 0, .int .u8 0, .int .u8 0, .int .u8 0, .int .u8 0, .int .u8 0, .int .u8 0, .int .u8 0, (.slice none 0 0), .int .i64 0]
  bf : Blk W (w.heap.size + 1 + 1 + 1 + 1) 38 cs
  bel : Below w.heap.size w W
  size : w.heap.size + 5 ≤ W.heap.size
section
variable {w W W' : World} {e e' : Nat} {l l' : List UInt8} {cs : Array Value}
theorem Dc.step (h : Dc w W e l cs) (hc : RCur W' w.heap.size (w.heap.size + 1) e' l') (hg : W.grownBy W' (some (w.heap.size + 1))) : Dc w W' e' l' cs :=
  ⟨h.br.grown hg (by simp), hc, h.one.grown hg (by simp), h.num.grown hg (by simp; omega), h.bf.grown hg (by simp; omega), h.bel.grown hg (by have := h.size; omega) (fun k hk => by injection hk with hk; omega), Nat.le_trans h.size hg.size⟩
theorem Dc.put (h : Dc w W e l cs) (i : Nat) (v : Value) : Dc w (W.setCell ⟨w.heap.size + 1 + 1 + 1 + 1, i, none⟩ v) e l (cs.setIfInBounds i v) :=
  ⟨h.br.far (by simp; omega) _, h.cur.far (by simp; omega) (by simp; omega) _, h.one.far (by simp) _, h.num.far (by simp) _, h.bf.set_ i v, h.bel.setCell (by simp; omega) _, by simpa [World.setCell] using h.size⟩
theorem dc_byte (h : Dc w W e l cs) :
    Calls Try.prog 40 #[.pointer (some ⟨w.heap.size + 1, 0, none⟩), .agg #[.int .i64 1, .int .u64 0, .int .u8 0, .int .u8 0, .int .u8 0, .int .u8 0, .int .u8 0, .int .u8 0, .int .u8 0, .int .u8 0, .int .u8 0, (.slice none 0 0), .int .i64 0]] W fun r W' => r = .returned (.agg #[.int .i64 1, .int .u64 0, .int .u8 ((byteR e l).1.toNat : Int), .int .u8 0, .int .u8 0, .int .u8 0, .int .u8 0, .int .u8 0, .int .u8 0, .int .u8 0, .int .u8 0, (.slice none 0 0), .int .i64 0]) ∧ Dc w W' (byteR e l).2.1 (byteR e l).2.2 cs :=
  (rd_byte _ e l W h.cur).mono fun _ _ ⟨h1, h2, h3⟩ => ⟨h1, h.step h2 h3⟩
theorem dc_num (h : Dc w W e l cs) :
    Calls Try.prog 40 #[.pointer (some ⟨w.heap.size + 1, 0, none⟩), .agg #[.int .i64 0, .int .u64 4294967295, .int .u8 0, .int .u8 0, .int .u8 0, .int .u8 0, .int .u8 0, .int .u8 0, .int .u8 0, .int .u8 0, .int .u8 0, (.slice none 0 0), .int .i64 0]] W fun r W' => r = .returned (.agg #[.int .i64 0, .int .u64 ((numR 4294967295 e l).1 : Int), .int .u8 0, .int .u8 0, .int .u8 0, .int .u8 0, .int .u8 0, .int .u8 0, .int .u8 0, .int .u8 0, .int .u8 0, (.slice none 0 0), .int .i64 0]) ∧ Dc w W' (numR 4294967295 e l).2.1 (numR 4294967295 e l).2.2 cs :=
  (rd_num _ e 4294967295 l W h.cur).mono fun _ _ ⟨h1, h2, h3⟩ => ⟨h1, h.step h2 h3⟩
theorem dc_bytes (h : Dc w W e l cs) :
    Calls Try.prog 40 #[.pointer (some ⟨w.heap.size + 1, 0, none⟩), .agg #[.int .i64 3, .int .u64 0, .int .u8 0, .int .u8 0, .int .u8 0, .int .u8 0, .int .u8 0, .int .u8 0, .int .u8 0, .int .u8 0, .int .u8 0, (.slice none 0 0), .int .i64 65536]] W fun r W' => ∃ A' c', r = .returned (.agg #[.int .i64 3, .int .u64 0, .int .u8 0, .int .u8 0, .int .u8 0, .int .u8 0, .int .u8 0, .int .u8 0, .int .u8 0, .int .u8 0, .int .u8 0, (.slice A' (bytesR 65536 e l).1.length c'), .int .i64 0]) ∧ (bytesR 65536 e l).1.length ≤ c' ∧
      Rd B8 W' (fun b => b < w.heap.size) A' (bytesR 65536 e l).1 ∧ Dc w W' (bytesR 65536 e l).2.1 (bytesR 65536 e l).2.2 cs :=
  (rd_bytes _ e 65536 l W (by omega) h.cur).mono fun _ _ ⟨A', c', h1, h2, h3, h4, h5⟩ => ⟨A', c', h1, h2, h3, h.step h4 h5⟩
end
/-- The first of the reference's errors. -/
theorem restE_e (r : Rest) (h : r.e ≠ 0) : restE r = r.e := by unfold restE firstE; rw [if_pos h]
theorem restE_3 (r : Rest) (h : r.e = 0) (h2 : 1 < r.last.toNat ∨ 0 < r.l.length) : restE r = 3 := by
  unfold restE
  rw [h]
  by_cases h3 : 1 < r.last.toNat
  · have : decide (r.last.toNat ≤ 1) = false := by simp; omega
    rw [this]
    simp [firstE]
  · have : decide (r.last.toNat ≤ 1) = true := by simp; omega
    rw [this]
    have h4 : doneR 0 r.l = 3 := by unfold doneR; rw [if_pos (by omega)]
    rw [h4]
    simp [firstE]
theorem restE_c (r : Rest) (h : r.e = 0) (h2 : ¬ (1 < r.last.toNat ∨ 0 < r.l.length)) : restE r = checkE r.fr := by
  unfold restE
  rw [h]
  have : decide (r.last.toNat ≤ 1) = true := by simp; omega
  rw [this]
  have h4 : doneR 0 r.l = 0 := by unfold doneR; rw [if_neg (by omega)]
  rw [h4]
  by_cases h5 : checkE r.fr = 0
  · rw [h5]; rfl
  · simp [firstE]; omega
theorem pc_f2 (d x c n : Int) (b : Value) (W : World) : (Instr.field 71 (.agg #[.int .i64 d, .int .u64 x, .int .u8 c, .int .u8 0, .int .u8 0, .int .u8 0, .int .u8 0, .int .u8 0, .int .u8 0, .int .u8 0, .int .u8 0, b, .int .i64 n]) 2).run Try.prog W = .ok (.int .u8 c) W := by kernel_rfl
theorem pc_f1 (d x c n : Int) (b : Value) (W : World) : (Instr.field 71 (.agg #[.int .i64 d, .int .u64 x, .int .u8 c, .int .u8 0, .int .u8 0, .int .u8 0, .int .u8 0, .int .u8 0, .int .u8 0, .int .u8 0, .int .u8 0, b, .int .i64 n]) 1).run Try.prog W = .ok (.int .u64 x) W := by kernel_rfl
theorem pc_f4 (d x c n : Int) (b : Value) (W : World) : (Instr.field 71 (.agg #[.int .i64 d, .int .u64 x, .int .u8 c, .int .u8 0, .int .u8 0, .int .u8 0, .int .u8 0, .int .u8 0, .int .u8 0, .int .u8 0, .int .u8 0, b, .int .i64 n]) 4).run Try.prog W = .ok b W := by kernel_rfl
theorem info_fr : (Try.prog.info? 38).map (·.size) = some 9 := by kernel_rfl
theorem fr_one (f : Fr) (A : Option Addr) (n c : Nat) : (#[.int .u8 (f.kind.toNat : Int), .int .u8 (f.frm.toNat : Int), .int .u8 (f.too.toNat : Int), .int .u32 (f.sess : Int), .int .u32 (f.seq : Int), .int .u8 (f.part.toNat : Int), .int .u32 (f.off : Int), .bool f.last, .slice A n c] : Array Value).all (·.oneCell') = true := by simp [Value.oneCell']
theorem zfr_one : (#[.int .u8 0, .int .u8 0, .int .u8 0, .int .u32 0, .int .u32 0, .int .u8 0, .int .u32 0, .bool false, .slice none 0 0] : Array Value).all (·.oneCell') = true := by simp [Value.oneCell']
set_option maxHeartbeats 40000000 in
set_option maxRecDepth 100000 in
theorem rdecode_main (A : Option Addr) (l : List UInt8) (c : Nat) (S : Nat → Prop) (w : World) (n : Nat) (x y : UInt8) (hn : l.length = n + 2) (hx : l[n]? = some x) (hy : l[n + 1]? = some y)
    (hne : sumI (l.take n) = (x.toNat : Int) * 256 + (y.toNat : Int)) (hc : n + 2 ≤ c) (hl : n ≤ 1000000) (hr : Rd B8 w S A l) :
    Calls Try.prog 12 #[.slice A (n + 2) c] w fun r w' => ∃ A' c', r = .returned (.tuple #[.agg #[.int .u8 ((decR (restR (l.take n))).1.kind.toNat : Int), .int .u8 ((decR (restR (l.take n))).1.frm.toNat : Int), .int .u8 ((decR (restR (l.take n))).1.too.toNat : Int), .int .u32 ((decR (restR (l.take n))).1.sess : Int), .int .u32 ((decR (restR (l.take n))).1.seq : Int), .int .u8 ((decR (restR (l.take n))).1.part.toNat : Int), .int .u32 ((decR (restR (l.take n))).1.off : Int), .bool (decR (restR (l.take n))).1.last, .slice A' (decR (restR (l.take n))).1.data.length c'], .int .i64 ((decR (restR (l.take n))).2 : Int)]) ∧ (decR (restR (l.take n))).1.data.length ≤ c' ∧ Rd B8 w' (fun _ => True) A' (decR (restR (l.take n))).1.data ∧ Below w.heap.size w w' := by
  have H := Lib.hid (ropen_good A l c S (w.alloc (.cells #[.int .u8 0, .int .u8 0, .int .u8 0, .int .u32 0, .int .u32 0, .int .u8 0, .int .u32 0, .bool false, .slice none 0 0] 38)) n x y hn hx hy hne hc hl (hr.alloc _))
  have hd : (l.take n).length = n := by rw [List.length_take]; omega
  have hr0 := (hr.inside.weaken (S' := fun b => b < w.heap.size) (fun b hb => hb.2)).take n
  have HD0 : Hid (Dc w (((((w.alloc (.cells #[.int .u8 0, .int .u8 0, .int .u8 0, .int .u32 0, .int .u32 0, .int .u8 0, .int .u32 0, .bool false, .slice none 0 0] 38)).alloc (.cells #[.slice A n c, .int .i64 0] 69)).alloc (.cells #[.int .i64 1, .int .u64 0, .int .u8 0, .int .u8 0, .int .u8 0, .int .u8 0, .int .u8 0, .int .u8 0, .int .u8 0, .int .u8 0, .int .u8 0, (.slice none 0 0), .int .i64 0] 71)).alloc (.cells #[.int .i64 0, .int .u64 4294967295, .int .u8 0, .int .u8 0, .int .u8 0, .int .u8 0, .int .u8 0, .int .u8 0, .int .u8 0, .int .u8 0, .int .u8 0, (.slice none 0 0), .int .i64 0] 71)).alloc (.cells #[.int .u8 0, .int .u8 0, .int .u8 0, .int .u32 0, .int .u32 0, .int .u8 0, .int .u32 0, .bool false, .slice none 0 0] 38)) 0 (l.take n) #[.int .u8 0, .int .u8 0, .int .u8 0, .int .u32 0, .int .u32 0, .int .u8 0, .int .u32 0, .bool false, .slice none 0 0]) := by
    have e1 := Blk.new w 38 #[.int .u8 0, .int .u8 0, .int .u8 0, .int .u32 0, .int .u32 0, .int .u8 0, .int .u32 0, .bool false, .slice none 0 0]
    have e2 := Blk.new (w.alloc (.cells #[.int .u8 0, .int .u8 0, .int .u8 0, .int .u32 0, .int .u32 0, .int .u8 0, .int .u32 0, .bool false, .slice none 0 0] 38)) 69 #[.slice A n c, .int .i64 0]
    have e3 := Blk.new ((w.alloc (.cells #[.int .u8 0, .int .u8 0, .int .u8 0, .int .u32 0, .int .u32 0, .int .u8 0, .int .u32 0, .bool false, .slice none 0 0] 38)).alloc (.cells #[.slice A n c, .int .i64 0] 69)) 71 #[.int .i64 1, .int .u64 0, .int .u8 0, .int .u8 0, .int .u8 0, .int .u8 0, .int .u8 0, .int .u8 0, .int .u8 0, .int .u8 0, .int .u8 0, (.slice none 0 0), .int .i64 0]
    have e4 := Blk.new (((w.alloc (.cells #[.int .u8 0, .int .u8 0, .int .u8 0, .int .u32 0, .int .u32 0, .int .u8 0, .int .u32 0, .bool false, .slice none 0 0] 38)).alloc (.cells #[.slice A n c, .int .i64 0] 69)).alloc (.cells #[.int .i64 1, .int .u64 0, .int .u8 0, .int .u8 0, .int .u8 0, .int .u8 0, .int .u8 0, .int .u8 0, .int .u8 0, .int .u8 0, .int .u8 0, (.slice none 0 0), .int .i64 0] 71)) 71 #[.int .i64 0, .int .u64 4294967295, .int .u8 0, .int .u8 0, .int .u8 0, .int .u8 0, .int .u8 0, .int .u8 0, .int .u8 0, .int .u8 0, .int .u8 0, (.slice none 0 0), .int .i64 0]
    have e5 := Blk.new ((((w.alloc (.cells #[.int .u8 0, .int .u8 0, .int .u8 0, .int .u32 0, .int .u32 0, .int .u8 0, .int .u32 0, .bool false, .slice none 0 0] 38)).alloc (.cells #[.slice A n c, .int .i64 0] 69)).alloc (.cells #[.int .i64 1, .int .u64 0, .int .u8 0, .int .u8 0, .int .u8 0, .int .u8 0, .int .u8 0, .int .u8 0, .int .u8 0, .int .u8 0, .int .u8 0, (.slice none 0 0), .int .i64 0] 71)).alloc (.cells #[.int .i64 0, .int .u64 4294967295, .int .u8 0, .int .u8 0, .int .u8 0, .int .u8 0, .int .u8 0, .int .u8 0, .int .u8 0, .int .u8 0, .int .u8 0, (.slice none 0 0), .int .i64 0] 71)) 38 #[.int .u8 0, .int .u8 0, .int .u8 0, .int .u32 0, .int .u32 0, .int .u8 0, .int .u32 0, .bool false, .slice none 0 0]
    simp only [World.size_alloc] at e2 e3 e4 e5
    refine ⟨(((e1.alloc _).alloc _).alloc _).alloc _, ⟨A, c, ?_, by rw [hd]; omega, by rw [hd]; omega, ((((hr0.alloc _).alloc _).alloc _).alloc _).alloc _, by omega⟩, (e3.alloc _).alloc _, e4.alloc _, e5, ?_, by simp⟩
    · rw [hd]; exact ((e2.alloc _).alloc _).alloc _
    · exact (((((Below.refl _ _).alloc (Nat.le_refl _) _).alloc (by simp) _).alloc (by simp; omega) _).alloc (by simp; omega) _).alloc (by simp; omega) _
  clear hn hx hy hne hd hr hr0 hc hl
  obtain ⟨v1, e1, l1, h1⟩ : ∃ v e l', byteR 0 (l.take n) = (v, e, l') := ⟨_, _, _, rfl⟩
  have H1 := Lib.hid h1
  obtain ⟨v2, e2, l2, h2⟩ : ∃ v e l', byteR e1 l1 = (v, e, l') := ⟨_, _, _, rfl⟩
  have H2 := Lib.hid h2
  obtain ⟨v3, e3, l3, h3⟩ : ∃ v e l', byteR e2 l2 = (v, e, l') := ⟨_, _, _, rfl⟩
  have H3 := Lib.hid h3
  obtain ⟨v4, e4, l4, h4⟩ : ∃ v e l', numR 4294967295 e3 l3 = (v, e, l') := ⟨_, _, _, rfl⟩
  have b4 : v4 ≤ 4294967295 := by have := numR_le_any 4294967295 e3 l3; rw [h4] at this; exact this
  have wv4 : IntKind.u32.wrap (v4 : Int) = (v4 : Int) := by show (v4 : Int) % 4294967296 = _; omega
  have H4 := Lib.hid h4
  obtain ⟨v5, e5, l5, h5⟩ : ∃ v e l', numR 4294967295 e4 l4 = (v, e, l') := ⟨_, _, _, rfl⟩
  have b5 : v5 ≤ 4294967295 := by have := numR_le_any 4294967295 e4 l4; rw [h5] at this; exact this
  have wv5 : IntKind.u32.wrap (v5 : Int) = (v5 : Int) := by show (v5 : Int) % 4294967296 = _; omega
  have H5 := Lib.hid h5
  obtain ⟨v6, e6, l6, h6⟩ : ∃ v e l', byteR e5 l5 = (v, e, l') := ⟨_, _, _, rfl⟩
  have H6 := Lib.hid h6
  obtain ⟨v7, e7, l7, h7⟩ : ∃ v e l', numR 4294967295 e6 l6 = (v, e, l') := ⟨_, _, _, rfl⟩
  have b7 : v7 ≤ 4294967295 := by have := numR_le_any 4294967295 e6 l6; rw [h7] at this; exact this
  have wv7 : IntKind.u32.wrap (v7 : Int) = (v7 : Int) := by show (v7 : Int) % 4294967296 = _; omega
  have H7 := Lib.hid h7
  obtain ⟨v8, e8, l8, h8⟩ : ∃ v e l', byteR e7 l7 = (v, e, l') := ⟨_, _, _, rfl⟩
  have H8 := Lib.hid h8
  obtain ⟨v9, e9, l9, h9⟩ : ∃ v e l', bytesR 65536 e8 l8 = (v, e, l') := ⟨_, _, _, rfl⟩
  have H9 := Lib.hid h9
  have HR : Hid (restR (l.take n) = ⟨⟨v1, v2, v3, v4, v5, v6, v7, v8 == 1, v9⟩, v8, e9, l9⟩) := by
    show _ = _
    simp only [restR, h1, h2, h3, h4, h5, h6, h7, h8, h9]
  clear h1 h2 h3 h4 h5 h6 h7 h8 h9
  have f2 := pc_f2
  have f1 := pc_f1
  have f4 := pc_f4
  go_enter Try.func12, Try.ntmps12
  go_wp2_with fail
  refine H.out.mono ?_
  rintro r W1 ⟨rfl, rfl⟩
  clear H
  go_upto_region 7 with (fail)
  generalize (((((w.alloc (.cells #[.int .u8 0, .int .u8 0, .int .u8 0, .int .u32 0, .int .u32 0, .int .u8 0, .int .u32 0, .bool false, .slice none 0 0] 38)).alloc (.cells #[.slice A n c, .int .i64 0] 69)).alloc (.cells #[.int .i64 1, .int .u64 0, .int .u8 0, .int .u8 0, .int .u8 0, .int .u8 0, .int .u8 0, .int .u8 0, .int .u8 0, .int .u8 0, .int .u8 0, (.slice none 0 0), .int .i64 0] 71)).alloc (.cells #[.int .i64 0, .int .u64 4294967295, .int .u8 0, .int .u8 0, .int .u8 0, .int .u8 0, .int .u8 0, .int .u8 0, .int .u8 0, .int .u8 0, .int .u8 0, (.slice none 0 0), .int .i64 0] 71)).alloc (.cells #[.int .u8 0, .int .u8 0, .int .u8 0, .int .u32 0, .int .u32 0, .int .u8 0, .int .u32 0, .bool false, .slice none 0 0] 38)) = V0 at HD0 ⊢
  go_wp2_with (refine wpList_load_row rfl 71 (.tmp 7) rfl (w.heap.size + 1 + 1) rfl 71 #[.int .i64 1, .int .u64 0, .int .u8 0, .int .u8 0, .int .u8 0, .int .u8 0, .int .u8 0, .int .u8 0, .int .u8 0, .int .u8 0, .int .u8 0, (.slice none 0 0), .int .i64 0] (0, 0) _ HD0.out.one Try.underlying71 rfl info_pc ?_)
  refine (dc_byte HD0.out).mono ?_
  rw [H1.out]
  dsimp only
  rintro r U1 ⟨rfl, hd1⟩
  clear HD0 H1
  have q := hd1.bf.frozen 0
  have z := hd1.bf.cell 0
  simp at z
  have HD1 : Hid (Dc w (U1.setCell ⟨w.heap.size + 1 + 1 + 1 + 1, 0, none⟩ (.int .u8 (v1.toNat : Int))) e1 l1 #[.int .u8 (v1.toNat : Int), .int .u8 0, .int .u8 0, .int .u32 0, .int .u32 0, .int .u8 0, .int .u32 0, .bool false, .slice none 0 0]) := hd1.put 0 _
  clear hd1
  go_upto_region 8 with (fail)
  clear q z
  generalize U1.setCell ⟨w.heap.size + 1 + 1 + 1 + 1, 0, none⟩ (.int .u8 (v1.toNat : Int)) = V1 at HD1 ⊢
  go_wp2_with (refine wpList_load_row rfl 71 (.tmp 7) rfl (w.heap.size + 1 + 1) rfl 71 #[.int .i64 1, .int .u64 0, .int .u8 0, .int .u8 0, .int .u8 0, .int .u8 0, .int .u8 0, .int .u8 0, .int .u8 0, .int .u8 0, .int .u8 0, (.slice none 0 0), .int .i64 0] (0, 0) _ HD1.out.one Try.underlying71 rfl info_pc ?_)
  refine (dc_byte HD1.out).mono ?_
  rw [H2.out]
  dsimp only
  rintro r U2 ⟨rfl, hd2⟩
  clear HD1 H2
  have q := hd2.bf.frozen 1
  have z := hd2.bf.cell 1
  simp at z
  have HD2 : Hid (Dc w (U2.setCell ⟨w.heap.size + 1 + 1 + 1 + 1, 1, none⟩ (.int .u8 (v2.toNat : Int))) e2 l2 #[.int .u8 (v1.toNat : Int), .int .u8 (v2.toNat : Int), .int .u8 0, .int .u32 0, .int .u32 0, .int .u8 0, .int .u32 0, .bool false, .slice none 0 0]) := hd2.put 1 _
  clear hd2
  go_upto_region 9 with (fail)
  clear q z
  generalize U2.setCell ⟨w.heap.size + 1 + 1 + 1 + 1, 1, none⟩ (.int .u8 (v2.toNat : Int)) = V2 at HD2 ⊢
  go_wp2_with (refine wpList_load_row rfl 71 (.tmp 7) rfl (w.heap.size + 1 + 1) rfl 71 #[.int .i64 1, .int .u64 0, .int .u8 0, .int .u8 0, .int .u8 0, .int .u8 0, .int .u8 0, .int .u8 0, .int .u8 0, .int .u8 0, .int .u8 0, (.slice none 0 0), .int .i64 0] (0, 0) _ HD2.out.one Try.underlying71 rfl info_pc ?_)
  refine (dc_byte HD2.out).mono ?_
  rw [H3.out]
  dsimp only
  rintro r U3 ⟨rfl, hd3⟩
  clear HD2 H3
  have q := hd3.bf.frozen 2
  have z := hd3.bf.cell 2
  simp at z
  have HD3 : Hid (Dc w (U3.setCell ⟨w.heap.size + 1 + 1 + 1 + 1, 2, none⟩ (.int .u8 (v3.toNat : Int))) e3 l3 #[.int .u8 (v1.toNat : Int), .int .u8 (v2.toNat : Int), .int .u8 (v3.toNat : Int), .int .u32 0, .int .u32 0, .int .u8 0, .int .u32 0, .bool false, .slice none 0 0]) := hd3.put 2 _
  clear hd3
  go_upto_region 10 with (fail)
  clear q z
  generalize U3.setCell ⟨w.heap.size + 1 + 1 + 1 + 1, 2, none⟩ (.int .u8 (v3.toNat : Int)) = V3 at HD3 ⊢
  go_wp2_with (refine wpList_load_row rfl 71 (.tmp 8) rfl (w.heap.size + 1 + 1 + 1) rfl 71 #[.int .i64 0, .int .u64 4294967295, .int .u8 0, .int .u8 0, .int .u8 0, .int .u8 0, .int .u8 0, .int .u8 0, .int .u8 0, .int .u8 0, .int .u8 0, (.slice none 0 0), .int .i64 0] (0, 0) _ HD3.out.num Try.underlying71 rfl info_pc ?_)
  refine (dc_num HD3.out).mono ?_
  rw [H4.out]
  dsimp only
  rintro r U4 ⟨rfl, hd4⟩
  clear HD3 H4
  have q := hd4.bf.frozen 3
  have z := hd4.bf.cell 3
  simp at z
  have HD4 : Hid (Dc w (U4.setCell ⟨w.heap.size + 1 + 1 + 1 + 1, 3, none⟩ (.int .u32 (v4 : Int))) e4 l4 #[.int .u8 (v1.toNat : Int), .int .u8 (v2.toNat : Int), .int .u8 (v3.toNat : Int), .int .u32 (v4 : Int), .int .u32 0, .int .u8 0, .int .u32 0, .bool false, .slice none 0 0]) := hd4.put 3 _
  clear hd4
  go_upto_region 11 with (fail)
  clear q z
  generalize U4.setCell ⟨w.heap.size + 1 + 1 + 1 + 1, 3, none⟩ (.int .u32 (v4 : Int)) = V4 at HD4 ⊢
  go_wp2_with (refine wpList_load_row rfl 71 (.tmp 8) rfl (w.heap.size + 1 + 1 + 1) rfl 71 #[.int .i64 0, .int .u64 4294967295, .int .u8 0, .int .u8 0, .int .u8 0, .int .u8 0, .int .u8 0, .int .u8 0, .int .u8 0, .int .u8 0, .int .u8 0, (.slice none 0 0), .int .i64 0] (0, 0) _ HD4.out.num Try.underlying71 rfl info_pc ?_)
  refine (dc_num HD4.out).mono ?_
  rw [H5.out]
  dsimp only
  rintro r U5 ⟨rfl, hd5⟩
  clear HD4 H5
  have q := hd5.bf.frozen 4
  have z := hd5.bf.cell 4
  simp at z
  have HD5 : Hid (Dc w (U5.setCell ⟨w.heap.size + 1 + 1 + 1 + 1, 4, none⟩ (.int .u32 (v5 : Int))) e5 l5 #[.int .u8 (v1.toNat : Int), .int .u8 (v2.toNat : Int), .int .u8 (v3.toNat : Int), .int .u32 (v4 : Int), .int .u32 (v5 : Int), .int .u8 0, .int .u32 0, .bool false, .slice none 0 0]) := hd5.put 4 _
  clear hd5
  go_upto_region 12 with (fail)
  clear q z
  generalize U5.setCell ⟨w.heap.size + 1 + 1 + 1 + 1, 4, none⟩ (.int .u32 (v5 : Int)) = V5 at HD5 ⊢
  go_wp2_with (refine wpList_load_row rfl 71 (.tmp 7) rfl (w.heap.size + 1 + 1) rfl 71 #[.int .i64 1, .int .u64 0, .int .u8 0, .int .u8 0, .int .u8 0, .int .u8 0, .int .u8 0, .int .u8 0, .int .u8 0, .int .u8 0, .int .u8 0, (.slice none 0 0), .int .i64 0] (0, 0) _ HD5.out.one Try.underlying71 rfl info_pc ?_)
  refine (dc_byte HD5.out).mono ?_
  rw [H6.out]
  dsimp only
  rintro r U6 ⟨rfl, hd6⟩
  clear HD5 H6
  have q := hd6.bf.frozen 5
  have z := hd6.bf.cell 5
  simp at z
  have HD6 : Hid (Dc w (U6.setCell ⟨w.heap.size + 1 + 1 + 1 + 1, 5, none⟩ (.int .u8 (v6.toNat : Int))) e6 l6 #[.int .u8 (v1.toNat : Int), .int .u8 (v2.toNat : Int), .int .u8 (v3.toNat : Int), .int .u32 (v4 : Int), .int .u32 (v5 : Int), .int .u8 (v6.toNat : Int), .int .u32 0, .bool false, .slice none 0 0]) := hd6.put 5 _
  clear hd6
  go_upto_region 13 with (fail)
  clear q z
  generalize U6.setCell ⟨w.heap.size + 1 + 1 + 1 + 1, 5, none⟩ (.int .u8 (v6.toNat : Int)) = V6 at HD6 ⊢
  go_wp2_with (refine wpList_load_row rfl 71 (.tmp 8) rfl (w.heap.size + 1 + 1 + 1) rfl 71 #[.int .i64 0, .int .u64 4294967295, .int .u8 0, .int .u8 0, .int .u8 0, .int .u8 0, .int .u8 0, .int .u8 0, .int .u8 0, .int .u8 0, .int .u8 0, (.slice none 0 0), .int .i64 0] (0, 0) _ HD6.out.num Try.underlying71 rfl info_pc ?_)
  refine (dc_num HD6.out).mono ?_
  rw [H7.out]
  dsimp only
  rintro r U7 ⟨rfl, hd7⟩
  clear HD6 H7
  have q := hd7.bf.frozen 6
  have z := hd7.bf.cell 6
  simp at z
  have HD7 : Hid (Dc w (U7.setCell ⟨w.heap.size + 1 + 1 + 1 + 1, 6, none⟩ (.int .u32 (v7 : Int))) e7 l7 #[.int .u8 (v1.toNat : Int), .int .u8 (v2.toNat : Int), .int .u8 (v3.toNat : Int), .int .u32 (v4 : Int), .int .u32 (v5 : Int), .int .u8 (v6.toNat : Int), .int .u32 (v7 : Int), .bool false, .slice none 0 0]) := hd7.put 6 _
  clear hd7
  go_upto_region 14 with (fail)
  clear q z
  generalize U7.setCell ⟨w.heap.size + 1 + 1 + 1 + 1, 6, none⟩ (.int .u32 (v7 : Int)) = V7 at HD7 ⊢
  go_wp2_with (refine wpList_load_row rfl 71 (.tmp 7) rfl (w.heap.size + 1 + 1) rfl 71 #[.int .i64 1, .int .u64 0, .int .u8 0, .int .u8 0, .int .u8 0, .int .u8 0, .int .u8 0, .int .u8 0, .int .u8 0, .int .u8 0, .int .u8 0, (.slice none 0 0), .int .i64 0] (0, 0) _ HD7.out.one Try.underlying71 rfl info_pc ?_)
  refine (dc_byte HD7.out).mono ?_
  rw [H8.out]
  dsimp only
  rintro r U8 ⟨rfl, hd8⟩
  clear HD7 H8
  have HD8 := Lib.hid hd8
  clear hd8
  go_upto_region 15 with (fail)
  go_wp2_with fail
  refine (dc_bytes HD8.out).mono ?_
  rw [H9.out]
  dsimp only
  rintro r U9 ⟨A9, c9, rfl, hc9, hr9, hd9⟩
  have HR9 := Lib.hid hr9
  clear hr9
  clear HD8 H9
  have q := hd9.bf.frozen 8
  have z := hd9.bf.cell 8
  simp at z
  have HD9 : Hid (Dc w (U9.setCell ⟨w.heap.size + 1 + 1 + 1 + 1, 8, none⟩ (.slice A9 v9.length c9)) e9 l9 #[.int .u8 (v1.toNat : Int), .int .u8 (v2.toNat : Int), .int .u8 (v3.toNat : Int), .int .u32 (v4 : Int), .int .u32 (v5 : Int), .int .u8 (v6.toNat : Int), .int .u32 (v7 : Int), .bool false, .slice A9 v9.length c9]) := hd9.put 8 _
  clear hd9
  have HR10 : Hid (Rd B8 (U9.setCell ⟨w.heap.size + 1 + 1 + 1 + 1, 8, none⟩ (.slice A9 v9.length c9)) (fun b => b < w.heap.size) A9 v9) := HR9.out.far (fun b hb => by simp; omega) _
  clear HR9
  go_upto_region 16 with (fail)
  clear q z
  generalize U9.setCell ⟨w.heap.size + 1 + 1 + 1 + 1, 8, none⟩ (.slice A9 v9.length c9) = V9 at HD9 HR10 ⊢
  obtain ⟨Lb, hLb⟩ : ∃ Lb, (v8 == 1) = Lb := ⟨_, rfl⟩
  rw [hLb] at HR
  have hL : ((v8.toNat : Int) == 1) = Lb := by rw [← hLb]; exact u8_beq v8 1
  clear hLb
  have q := HD9.out.bf.frozen 7
  have z := HD9.out.bf.cell 7
  simp at z
  obtain ⟨f, hf⟩ : ∃ f : Fr, f = ⟨v1, v2, v3, v4, v5, v6, v7, Lb, v9⟩ := ⟨_, rfl⟩
  have HD10 : Hid (Dc w (V9.setCell ⟨w.heap.size + 1 + 1 + 1 + 1, 7, none⟩ (.bool Lb)) e9 l9 (#[.int .u8 (f.kind.toNat : Int), .int .u8 (f.frm.toNat : Int), .int .u8 (f.too.toNat : Int), .int .u32 (f.sess : Int), .int .u32 (f.seq : Int), .int .u8 (f.part.toNat : Int), .int .u32 (f.off : Int), .bool f.last, .slice A9 f.data.length c9])) := by subst hf; exact HD9.out.put 7 _
  have HR11 : Hid (Rd B8 (V9.setCell ⟨w.heap.size + 1 + 1 + 1 + 1, 7, none⟩ (.bool Lb)) (fun b => b < w.heap.size) A9 f.data) := by subst hf; exact HR10.out.far (fun b hb => by simp; omega) _
  have hc9' : f.data.length ≤ c9 := by subst hf; exact hc9
  rw [← hf] at HR
  clear HD9 HR10 hc9
  go_upto_region 17 with (fail)
  clear q z hL hf
  generalize V9.setCell ⟨w.heap.size + 1 + 1 + 1 + 1, 7, none⟩ (.bool Lb) = V10 at HD10 HR11 ⊢
  clear b4 b5 b7 wv4 wv5 wv7
  obtain ⟨A', c', y0, y1, p0, p1, _, hl9, _⟩ := HD10.out.cur.cells
  have hbr := Lib.hid HD10.out.br
  have hsz := HD10.out.size
  by_cases he : e9 = 0
  · subst he
    have ht : (((0 : Nat) : Int) != 0) = false := by simp
    by_cases h3 : 1 < v8.toNat ∨ 0 < l9.length
    · have T : decide ((v8.toNat : Int) > 1) = true ∨ (decide ((v8.toNat : Int) > 1) = false ∧ decide ((l9.length : Int) > 0) = true ∧ decide (0 < l9.length) = true) := by
        simp only [decide_eq_true_eq, decide_eq_false_iff_not]; omega
      have hDe : Hid (decR (restR (l.take n)) = (Fr0, 3)) := by
        show _ = _
        rw [HR.out]; unfold decR; rw [restE_3 _ rfl h3, if_pos (by decide)]
      clear h3
      rcases T with T | ⟨T, T', T''⟩ <;>
      · go_upto_region 20 with (fail)
        refine wp_region_lit ?_
        iterate 1 (refine wpList_plain rfl fun K hK => ?_; go_simp; refine hK _ _ ?_; clear hK K)
        refine wpList_store_row rfl 38 (.tmp 2) (.tmp 97) rfl w.heap.size #[.int .u8 0, .int .u8 0, .int .u8 0, .int .u32 0, .int .u32 0, .int .u8 0, .int .u32 0, .bool false, .slice none 0 0] rfl rfl 38 _ hbr.out info_fr rfl zfr_one ?_
        go_wp2
        rw [hDe.out]
        exact bodyPost_ret (results_frame rfl _ _ w.heap.size _ _ rfl rfl (hbr.out.row _) rfl) rfl ⟨none, 0, rfl, Nat.le_refl _, Rd.nil, below_setRow HD10.out.bel (Nat.le_refl _) _⟩
    · have t1 : decide ((v8.toNat : Int) > 1) = false := by simp; omega
      have h9 : l9.length = 0 := by omega
      have t2 : decide ((l9.length : Int) > 0) = false := by rw [h9]; decide
      have t2' : decide (0 < l9.length) = false := by rw [h9]; decide
      clear h9
      have hrE := restE_c ⟨f, v8, 0, l9⟩ rfl h3
      clear h3
      go_wp2_with (refine wpList_load_row rfl 38 (.tmp 9) rfl (w.heap.size + 1 + 1 + 1 + 1) rfl 38 #[.int .u8 (f.kind.toNat : Int), .int .u8 (f.frm.toNat : Int), .int .u8 (f.too.toNat : Int), .int .u32 (f.sess : Int), .int .u32 (f.seq : Int), .int .u8 (f.part.toNat : Int), .int .u32 (f.off : Int), .bool f.last, .slice A9 f.data.length c9] (0, 0) _ HD10.out.bf Try.underlying38 rfl info_fr ?_)
      refine (rcheck_calls f A9 f.data.length c9 rfl _).mono ?_
      rintro r W11 ⟨rfl, hb11⟩
      have hbr1 := Lib.hid (hbr.out.below hb11 (by omega))
      have hbf1 := Lib.hid (HD10.out.bf.below hb11 (by omega))
      have hrd1 := Lib.hid (HR11.out.below hb11)
      have hbe1 := Lib.hid (HD10.out.bel.trans (hb11.mono (by omega)))
      have hsz1 := hb11.size
      clear hb11 hbr HR11 HD10 y0 y1 p0 p1
      by_cases hck : checkE f = 0
      · have hDe : Hid (decR (restR (l.take n)) = (f, 0)) := by
          show _ = _
          rw [HR.out]; unfold decR; rw [hrE, if_neg (fun h => h hck)]
        have t3 : ((checkE f : Int) != 0) = false := by simp; omega
        clear hrE
        go_upto_region 23 with (fail)
        refine wp_region_lit ?_
        refine wpList_load_row rfl 38 (.tmp 9) rfl (w.heap.size + 1 + 1 + 1 + 1) rfl 38 #[.int .u8 (f.kind.toNat : Int), .int .u8 (f.frm.toNat : Int), .int .u8 (f.too.toNat : Int), .int .u32 (f.sess : Int), .int .u32 (f.seq : Int), .int .u8 (f.part.toNat : Int), .int .u32 (f.off : Int), .bool f.last, .slice A9 f.data.length c9] (0, 0) _ hbf1.out Try.underlying38 rfl info_fr ?_
        refine wpList_store_row rfl 38 (.tmp 2) (.tmp 105) rfl w.heap.size #[.int .u8 (f.kind.toNat : Int), .int .u8 (f.frm.toNat : Int), .int .u8 (f.too.toNat : Int), .int .u32 (f.sess : Int), .int .u32 (f.seq : Int), .int .u8 (f.part.toNat : Int), .int .u32 (f.off : Int), .bool f.last, .slice A9 f.data.length c9] rfl rfl 38 _ hbr1.out info_fr rfl (fr_one _ _ _ _) ?_
        go_wp2
        rw [hDe.out]
        exact bodyPost_ret (results_frame rfl _ _ w.heap.size _ _ rfl rfl (hbr1.out.row _) rfl) rfl ⟨A9, c9, rfl, hc9', (hrd1.out.keep (fun b hb => by simp only [World.setRow, Array.getElem?_modify]; rw [if_neg (by omega)])).weaken (fun _ _ => trivial), below_setRow hbe1.out (Nat.le_refl _) _⟩
      · have hDe : Hid (decR (restR (l.take n)) = (Fr0, checkE f)) := by
          show _ = _
          rw [HR.out]; unfold decR; rw [hrE, if_pos hck]
        have t3 : ((checkE f : Int) != 0) = true := by simp; omega
        clear hrE hrd1
        go_upto_region 22 with (fail)
        refine wp_region_lit ?_
        iterate 1 (refine wpList_plain rfl fun K hK => ?_; go_simp; refine hK _ _ ?_; clear hK K)
        refine wpList_load_row rfl 38 (.tmp 9) rfl (w.heap.size + 1 + 1 + 1 + 1) rfl 38 #[.int .u8 (f.kind.toNat : Int), .int .u8 (f.frm.toNat : Int), .int .u8 (f.too.toNat : Int), .int .u32 (f.sess : Int), .int .u32 (f.seq : Int), .int .u8 (f.part.toNat : Int), .int .u32 (f.off : Int), .bool f.last, .slice A9 f.data.length c9] (0, 0) _ hbf1.out Try.underlying38 rfl info_fr ?_
        go_wp2_with fail
        refine (rcheck_calls f A9 f.data.length c9 rfl _).mono ?_
        rintro r W12 ⟨rfl, hb12⟩
        have hbr2 := Lib.hid (hbr1.out.below hb12 (by omega))
        have hbe2 := Lib.hid (hbe1.out.trans (hb12.mono (by omega)))
        clear hb12 hbr1 hbf1 hbe1
        go_wp2_with (refine wpList_store_row rfl 38 (.tmp 2) (.tmp 102) rfl w.heap.size #[.int .u8 0, .int .u8 0, .int .u8 0, .int .u32 0, .int .u32 0, .int .u8 0, .int .u32 0, .bool false, .slice none 0 0] rfl rfl 38 _ hbr2.out info_fr rfl zfr_one ?_)
        rw [hDe.out]
        exact bodyPost_ret (results_frame rfl _ _ w.heap.size _ _ rfl rfl (hbr2.out.row _) rfl) rfl ⟨none, 0, rfl, Nat.le_refl _, Rd.nil, below_setRow hbe2.out (Nat.le_refl _) _⟩
  · have ht : ((e9 : Int) != 0) = true := by simp; omega
    have hDe : Hid (decR (restR (l.take n)) = (Fr0, e9)) := by
      show _ = _
      rw [HR.out]; unfold decR; rw [restE_e _ he, if_pos he]
    clear he
    go_upto_region 18 with (fail)
    have k1 : V10.drew.cell? ⟨w.heap.size + 1, 1, none⟩ = some (.int .i64 (e9 : Int)) := y1
    have k1' : (V10.drew.setRow w.heap.size #[.int .u8 0, .int .u8 0, .int .u8 0, .int .u32 0, .int .u32 0, .int .u8 0, .int .u32 0, .bool false, .slice none 0 0]).cell? ⟨w.heap.size + 1, 1, none⟩ = some (.int .i64 (e9 : Int)) := by
      rw [World.cell?_of_block (w := V10.drew) (by simp only [World.setRow, Array.getElem?_modify]; rw [if_neg (by omega)])]
      exact y1
    clear y0 p0 p1
    refine wp_region_held_drew (S := fun w' => w'.cell? ⟨w.heap.size + 1, 1, none⟩ = some (.int .i64 (e9 : Int))) (by kernel_rfl) k1 (fun hHeld => ?_)
    refine wpAnyH_take (i := 0) (oi := { dst := some 81, op := .build 38 #[], type := 38, pos := "ref.go:64", after := #[], guard := none }) (v := .agg #[.int .u8 0, .int .u8 0, .int .u8 0, .int .u32 0, .int .u32 0, .int .u8 0, .int .u32 0, .bool false, .slice none 0 0]) rfl (by kernel_rfl) (by kernel_rfl) (by kernel_rfl) (fun _ _ _ h => h) (Or.inl ⟨by rfl, ?_⟩) (by assumption) ?_
    · intro w9 hSw
      go_simp
    try simp only [Act.put, List.setIfInBounds_toArray, List.set_cons_zero, List.set_cons_succ]
    refine wpAnyH_take (i := 1) (oi := { dst := some 82, op := .move (.tmp 6), type := 67, pos := "ref.go:64", after := #[{ on := 5, ground := (.gcOnly .lateStores) }], guard := none }) (v := .pointer (some ⟨w.heap.size + 1, 0, none⟩)) rfl (by kernel_rfl) (by kernel_rfl) (by kernel_rfl) (fun _ _ _ h => h) (Or.inl ⟨by rfl, ?_⟩) (by assumption) ?_
    · intro w9 hSw
      go_simp
    try simp only [Act.put, List.setIfInBounds_toArray, List.set_cons_zero, List.set_cons_succ]
    refine wpAnyH_take (i := 2) (oi := { dst := some 83, op := .nilCheck (.tmp 82), type := 0, pos := "ref.go:64", after := #[{ on := 1, ground := .data }, { on := 5, ground := (.gcOnly .lateStores) }], guard := none }) (v := .pointer (some ⟨w.heap.size + 1, 0, none⟩)) rfl (by kernel_rfl) (by kernel_rfl) (by kernel_rfl) (fun _ _ _ h => h) (Or.inl ⟨by rfl, ?_⟩) (by assumption) ?_
    · intro w9 hSw
      go_simp
    try simp only [Act.put, List.setIfInBounds_toArray, List.set_cons_zero, List.set_cons_succ]
    refine wpAnyH_take (i := 3) (oi := { dst := some 84, op := .fieldAddr 69 (.tmp 83) 1, type := 0, pos := "ref.go:64", after := #[{ on := 2, ground := .data }, { on := 5, ground := (.gcOnly .lateStores) }], guard := none }) (v := .pointer (some ⟨w.heap.size + 1, 1, none⟩)) rfl (by kernel_rfl) (by kernel_rfl) (by kernel_rfl) (fun _ _ _ h => h) (Or.inl ⟨by rfl, ?_⟩) (by assumption) ?_
    · intro w9 hSw
      go_simp
    try simp only [Act.put, List.setIfInBounds_toArray, List.set_cons_zero, List.set_cons_succ]
    refine wpAnyH_take (i := 4) (oi := { dst := some 85, op := .load 39 (.tmp 84), type := 39, pos := "ref.go:64", after := #[{ on := 3, ground := .data }, { on := 5, ground := (.gcOnly .lateStores) }], guard := none }) (v := .int .i64 (e9 : Int)) rfl (by kernel_rfl) (by kernel_rfl) (by kernel_rfl) (fun _ _ _ h => h) (Or.inl ⟨by rfl, ?_⟩) (by assumption) ?_
    · intro w9 hSw
      (try dsimp only at hSw); go_simp
    try simp only [Act.put, List.setIfInBounds_toArray, List.set_cons_zero, List.set_cons_succ]
    refine wpAnyH_ready (rs := [5]) (by kernel_rfl) (by simp) ?_
    refine AllReadyH.cons (o := { dst := none, op := .store 38 (.tmp 2) (.tmp 81), type := 0, pos := "ref.go:64", after := #[{ on := 0, ground := .data }, { on := 0, ground := .phase }, { on := 1, ground := (.textOnly .lateStores) }, { on := 2, ground := (.textOnly .lateStores) }, { on := 3, ground := (.textOnly .lateStores) }, { on := 4, ground := (.textOnly .lateStores) }], guard := none }) rfl (fun K hK => ?_) AllReadyH.nil
    rw [if_pos (by rfl)]
    refine wp_store_row 38 (.tmp 2) (.tmp 81) rfl w.heap.size #[.int .u8 0, .int .u8 0, .int .u8 0, .int .u32 0, .int .u32 0, .int .u8 0, .int .u32 0, .bool false, .slice none 0 0] rfl rfl 38 _ hbr.out.drew info_fr rfl zfr_one ?_
    refine hK.out _ _ k1' (fun hHeld => ?_)
    clear hK K
    try simp only [Act.put, List.setIfInBounds_toArray, List.set_cons_zero, List.set_cons_succ]
    refine wpAnyH_take (i := 6) (oi := { dst := some 3, op := .assign (.tmp 85), type := 39, pos := "ref.go:64", after := #[{ on := 4, ground := .data }, { on := 5, ground := .chain }, { on := 0, ground := .phase }, { on := 1, ground := .phase }, { on := 2, ground := .phase }, { on := 3, ground := .phase }, { on := 4, ground := .phase }, { on := 5, ground := .phase }], guard := none }) (v := .int .i64 (e9 : Int)) rfl (by kernel_rfl) (by kernel_rfl) (by kernel_rfl) (fun _ _ _ h => h) (Or.inl ⟨by rfl, ?_⟩) (by assumption) ?_
    · intro w9 hSw
      go_simp
    try simp only [Act.put, List.setIfInBounds_toArray, List.set_cons_zero, List.set_cons_succ]
    refine wpAnyH_done (by kernel_rfl) ?_ _
    clear k1 k1' y1
    go_wp2
    rw [hDe.out]
    exact bodyPost_ret (results_frame rfl _ _ w.heap.size _ _ rfl rfl (hbr.out.drew.row _) rfl) rfl ⟨none, 0, rfl, Nat.le_refl _, Rd.nil, below_setRow (below_drewN HD10.out.bel 1) (Nat.le_refl _) _⟩
end Go.Proofs.Ytogdbccfkbbcaaa
