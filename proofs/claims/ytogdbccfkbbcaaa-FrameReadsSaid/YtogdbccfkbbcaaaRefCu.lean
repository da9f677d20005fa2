/- The walks of the reference's cursor: it reads as the program's own. -/
import Derived.Test.YtogdbccfkbbcaaaRefNu
import Derived.Test.YtogdbccfkbbcaaaCursorB
import Derived.Test.YtogdbccfkbbcaaaVarW
import Derived.Deep.RegionHeld3
import Derived.StillTailTactics
import Derived.Deep.WholeRow
import Derived.Deep.Cut
namespace Go.Proofs.Ytogdbccfkbbcaaa
open Go.RowKit
set_option linter.unusedSimpArgs false
variable {D : Nat}
/-- A cursor of the reference at block p: the bytes l that come yet, its error e; the bytes lie below block D. -/
def RCur (w : World) (D p : Nat) (e : Nat) (l : List UInt8) : Prop :=
  ∃ A c, Blk w p 69 #[.slice A l.length c, .int .i64 (e : Int)] ∧ l.length ≤ c ∧ l.length ≤ 1000000 ∧ Rd B8 w (fun b => b < D) A l ∧ D ≤ p
theorem RCur.lt {w : World} {p e : Nat} {l : List UInt8} (h : RCur w D p e l) : p < w.heap.size := by
  obtain ⟨A, c, hb, _⟩ := h
  exact hb.lt
theorem RCur.low {w : World} {p e : Nat} {l : List UInt8} (h : RCur w D p e l) : D ≤ p := by
  obtain ⟨A, c, _, _, _, _, h⟩ := h
  exact h
theorem RCur.grown {w w' : World} {p e : Nat} {l : List UInt8} {row : Option Nat} (h : RCur w D p e l) (hg : w.grownBy w' row) (hp : some p ≠ row) (hr : ∀ b, b < D → some b ≠ row) : RCur w' D p e l := by
  obtain ⟨A, c, hb, h1, h2, hr1, h3⟩ := h
  exact ⟨A, c, hb.grown hg hp, h1, h2, hr1.grown hg (fun b hb => hr b hb), h3⟩
theorem RCur.below {w w' : World} {p e : Nat} {l : List UInt8} (h : RCur w D p e l) (hb : Below w.heap.size w w') : RCur w' D p e l :=
  h.grown (grown_of_below hb none) (by simp) (by simp)
theorem RCur.far {w : World} {p e : Nat} {l : List UInt8} (h : RCur w D p e l) {a : Addr} (h1 : a.block ≠ p) (h2 : D ≤ a.block) (u : Value) : RCur (w.setCell a u) D p e l :=
  h.grown (grown_setCell w a u) (by simp; omega) (fun b hb => by simp; omega)
theorem RCur.cells {w : World} {p e : Nat} {l : List UInt8} (h : RCur w D p e l) : ∃ A c, w.cell? ⟨p, 0, none⟩ = some (.slice A l.length c) ∧ w.cell? ⟨p, 1, none⟩ = some (.int .i64 (e : Int)) ∧ w.frozen? ⟨p, 0, none⟩ = false ∧ w.frozen? ⟨p, 1, none⟩ = false ∧
    l.length ≤ c ∧ l.length ≤ 1000000 ∧ Hid (Rd B8 w (fun b => b < D) A l) := by
  obtain ⟨A, c, hb, h1, h2, h3, _⟩ := h
  exact ⟨A, c, hb.cell 0, hb.cell 1, hb.frozen 0, hb.frozen 1, h1, h2, h3⟩
theorem Blk.setRow_far {w : World} {g k : Nat} {t : TypeId} {cs new : Array Value} (h : Blk w g t cs) (hk : g ≠ k) : Blk (w.setRow k new) g t cs := by
  unfold Blk at h ⊢
  simp only [World.setRow, Array.getElem?_modify]
  rw [if_neg (by omega)]
  exact h
theorem grown_setRow {w w' : World} {row : Option Nat} (h : w.grownBy w' row) {g : Nat} (hg : w.heap.size ≤ g) (cs : Array Value) : w.grownBy (w'.setRow g cs) row :=
  ⟨h.os, h.tape, h.output, by have := h.size; simpa [World.setRow] using this, fun k hk hne => by
    simp only [World.setRow, Array.getElem?_modify]
    rw [if_neg (by omega)]
    exact h.block k hk hne⟩
theorem pc_one (d x c n : Int) (A : Option Addr) (k k' : Nat) : (#[.int .i64 d, .int .u64 x, .int .u8 c, .int .u8 0, .int .u8 0, .int .u8 0, .int .u8 0, .int .u8 0, .int .u8 0, .int .u8 0, .int .u8 0, (.slice A k k'), .int .i64 n] : Array Value).all (·.oneCell') = true := by simp [Value.oneCell']
theorem info_pc : (Try.prog.info? 71).map (·.size) = some 13 := by kernel_rfl
theorem blk_last (w : World) (a b c : Obj) (cs : Array Value) (t : TypeId) (h : c = .cells cs t) : Blk (((w.alloc a).alloc b).alloc c) (w.heap.size + 1 + 1) t cs := by
  subst h
  have := Blk.new ((w.alloc a).alloc b) t cs
  rw [World.size_alloc, World.size_alloc] at this
  exact this
theorem blk_mid (w : World) (a b c : Obj) (cs : Array Value) (t : TypeId) (h : b = .cells cs t) : Blk (((w.alloc a).alloc b).alloc c) (w.heap.size + 1) t cs := by
  subst h
  have := (Blk.new (w.alloc a) t cs).alloc c
  rw [World.size_alloc] at this
  exact this
theorem blk_first (w : World) (a b c : Obj) (cs : Array Value) (t : TypeId) (h : a = .cells cs t) : Blk (((w.alloc a).alloc b).alloc c) w.heap.size t cs := by
  subst h
  exact ((Blk.new w t cs).alloc b).alloc c
theorem grown_three (w : World) (a b c : Obj) (row : Option Nat) : w.grownBy (((w.alloc a).alloc b).alloc c) row :=
  grown_of_below ((((Below.refl _ _).alloc (Nat.le_refl _) a).alloc (by simp) b).alloc (by simp; omega) c) row
theorem below_three (w : World) (a b c : Obj) : Below w.heap.size w (((w.alloc a).alloc b).alloc c) :=
  (((Below.refl _ _).alloc (Nat.le_refl _) a).alloc (by simp) b).alloc (by simp; omega) c
set_option maxRecDepth 100000 in
theorem rread_bad (p e : Nat) (d x cc n : Int) (bb : Value) (l : List UInt8) (w : World) (he : e ≠ 0) (hc : RCur w D p e l) :
    Calls Try.prog 40 #[.pointer (some ⟨p, 0, none⟩), .agg #[.int .i64 d, .int .u64 x, .int .u8 cc, .int .u8 0, .int .u8 0, .int .u8 0, .int .u8 0, .int .u8 0, .int .u8 0, .int .u8 0, .int .u8 0, bb, .int .i64 n]] w fun r w' => r = .returned (.agg #[.int .i64 d, .int .u64 0, .int .u8 0, .int .u8 0, .int .u8 0, .int .u8 0, .int .u8 0, .int .u8 0, .int .u8 0, .int .u8 0, .int .u8 0, (.slice none 0 0), .int .i64 0]) ∧ RCur w' D p e l ∧ w.grownBy w' (some p) := by
  have ht : ((e : Int) != 0) = true := by simp; omega
  have hc1 := hc.below (below_three w (.cells #[.int .i64 d, .int .u64 x, .int .u8 cc, .int .u8 0, .int .u8 0, .int .u8 0, .int .u8 0, .int .u8 0, .int .u8 0, .int .u8 0, .int .u8 0, bb, .int .i64 n] 71) (.cells #[.int .i64 0, .int .u64 0, .int .u8 0, .int .u8 0, .int .u8 0, .int .u8 0, .int .u8 0, .int .u8 0, .int .u8 0, .int .u8 0, .int .u8 0, (.slice none 0 0), .int .i64 0] 71) (.cells #[.int .i64 d, .int .u64 0, .int .u8 0, .int .u8 0, .int .u8 0, .int .u8 0, .int .u8 0, .int .u8 0, .int .u8 0, .int .u8 0, .int .u8 0, (.slice none 0 0), .int .i64 0] 71))
  have HG := Lib.hid (grown_three w (.cells #[.int .i64 d, .int .u64 x, .int .u8 cc, .int .u8 0, .int .u8 0, .int .u8 0, .int .u8 0, .int .u8 0, .int .u8 0, .int .u8 0, .int .u8 0, bb, .int .i64 n] 71) (.cells #[.int .i64 d, .int .u64 0, .int .u8 0, .int .u8 0, .int .u8 0, .int .u8 0, .int .u8 0, .int .u8 0, .int .u8 0, .int .u8 0, .int .u8 0, (.slice none 0 0), .int .i64 0] 71) (.cells #[.int .i64 d, .int .u64 0, .int .u8 0, .int .u8 0, .int .u8 0, .int .u8 0, .int .u8 0, .int .u8 0, .int .u8 0, .int .u8 0, .int .u8 0, (.slice none 0 0), .int .i64 0] 71) (some p))
  obtain ⟨A, c, hb, _, _, _, _⟩ := hc1
  have y1 := hb.cell 1
  simp at y1
  clear hb
  have HC1 := Lib.hid (hc.below (below_three w (.cells #[.int .i64 d, .int .u64 x, .int .u8 cc, .int .u8 0, .int .u8 0, .int .u8 0, .int .u8 0, .int .u8 0, .int .u8 0, .int .u8 0, .int .u8 0, bb, .int .i64 n] 71) (.cells #[.int .i64 d, .int .u64 0, .int .u8 0, .int .u8 0, .int .u8 0, .int .u8 0, .int .u8 0, .int .u8 0, .int .u8 0, .int .u8 0, .int .u8 0, (.slice none 0 0), .int .i64 0] 71) (.cells #[.int .i64 d, .int .u64 0, .int .u8 0, .int .u8 0, .int .u8 0, .int .u8 0, .int .u8 0, .int .u8 0, .int .u8 0, .int .u8 0, .int .u8 0, (.slice none 0 0), .int .i64 0] 71)))
  clear hc
  go_enter Try.func40, Try.ntmps40
  go_wp2
  exact bodyPost_ret (results_cell_row rfl _ _ (w.heap.size + 1) 71 _ (0, 0) _ rfl (blk_mid w _ _ _ #[.int .i64 d, .int .u64 0, .int .u8 0, .int .u8 0, .int .u8 0, .int .u8 0, .int .u8 0, .int .u8 0, .int .u8 0, .int .u8 0, .int .u8 0, (.slice none 0 0), .int .i64 0] _ rfl) Try.underlying71 rfl info_pc) rfl ⟨rfl, HC1.out, HG.out⟩
/-- What a piece is read as: the error laid down. -/
theorem RCur.err {W : World} {p : Nat} (e : Nat) (E : Int) (hE : E = (e : Int)) {l : List UInt8} (h : RCur W D p 0 l) : RCur ((W.setCell ⟨p, 0, none⟩ (.slice none 0 0)).setCell ⟨p, 1, none⟩ (.int .i64 E)) D p e [] := by
  subst hE
  obtain ⟨A, c, hb, h1, h2, h3, h4⟩ := h
  exact ⟨none, 0, (hb.set_ 0 _).set_ 1 _, by simp, by simp, Rd.nil, h4⟩
/-- The bytes behind, laid down. -/
theorem RCur.rest {W : World} {p : Nat} {l l' : List UInt8} (h : RCur W D p 0 l) {A : Option Addr} {n c : Nat} (hn : l'.length = n) (hc : n ≤ c) (hl : n ≤ 1000000) (hr : Rd B8 W (fun b => b < D) A l') : RCur (W.setCell ⟨p, 0, none⟩ (.slice A n c)) D p 0 l' := by
  subst hn
  obtain ⟨A', c', hb, h1, h2, h3, h4⟩ := h
  exact ⟨A, c, hb.set_ 0 _, hc, hl, hr.far (fun b hb => by simp; omega) _, h4⟩
/-- The end of Read: the result laid into its cell. -/
theorem rread_end {w W : World} {p e : Nat} {l : List UInt8} {Z : Array Value} (cs : Array Value) (hp : p < w.heap.size) (hc : RCur W D p e l) (hg : w.grownBy W (some p)) (hb : Blk W (w.heap.size + 1) 71 Z) :
    RCur (W.setRow (w.heap.size + 1) cs) D p e l ∧ w.grownBy (W.setRow (w.heap.size + 1) cs) (some p) ∧ Blk (W.setRow (w.heap.size + 1) cs) (w.heap.size + 1) 71 cs := by
  have hD := hc.low
  have h2 := grown_setRow (World.grownBy.refl W (some (w.heap.size + 1))) (g := w.heap.size + 1)
  have h3 : W.grownBy (W.setRow (w.heap.size + 1) cs) (some (w.heap.size + 1)) := ⟨rfl, rfl, rfl, by simp [World.setRow], fun k _ hne => by
    simp only [World.setRow, Array.getElem?_modify]
    rw [if_neg (fun e => hne (by rw [e]))]⟩
  exact ⟨hc.grown h3 (by simp; omega) (fun b hb => by simp; omega), grown_setRow hg (by omega) cs, hb.row cs⟩
theorem grown_set {w W : World} {row : Option Nat} (h : w.grownBy W row) (a : Addr) (u : Value) (ha : some a.block = row ∨ w.heap.size ≤ a.block) : w.grownBy (W.setCell a u) row :=
  ⟨h.os, h.tape, h.output, by have := h.size; simpa [World.setCell] using this, fun k hk hne => by
    rw [Below.heap_setCell W a u k (by
      rintro rfl
      rcases ha with ha | ha
      · exact hne ha
      · omega)]
    exact h.block k hk hne⟩
set_option maxHeartbeats 4000000 in
set_option maxRecDepth 100000 in
theorem rread_byte_nil (p : Nat) (w : World) (hc : RCur w D p 0 []) :
    Calls Try.prog 40 #[.pointer (some ⟨p, 0, none⟩), .agg #[.int .i64 1, .int .u64 0, .int .u8 0, .int .u8 0, .int .u8 0, .int .u8 0, .int .u8 0, .int .u8 0, .int .u8 0, .int .u8 0, .int .u8 0, (.slice none 0 0), .int .i64 0]] w fun r w' => r = .returned (.agg #[.int .i64 1, .int .u64 0, .int .u8 0, .int .u8 0, .int .u8 0, .int .u8 0, .int .u8 0, .int .u8 0, .int .u8 0, .int .u8 0, .int .u8 0, (.slice none 0 0), .int .i64 0]) ∧ RCur w' D p 4 [] ∧ w.grownBy w' (some p) := by
  have hc1 := hc.below (below_three w (.cells #[.int .i64 1, .int .u64 0, .int .u8 0, .int .u8 0, .int .u8 0, .int .u8 0, .int .u8 0, .int .u8 0, .int .u8 0, .int .u8 0, .int .u8 0, (.slice none 0 0), .int .i64 0] 71) (.cells #[.int .i64 0, .int .u64 0, .int .u8 0, .int .u8 0, .int .u8 0, .int .u8 0, .int .u8 0, .int .u8 0, .int .u8 0, .int .u8 0, .int .u8 0, (.slice none 0 0), .int .i64 0] 71) (.cells #[.int .i64 1, .int .u64 0, .int .u8 0, .int .u8 0, .int .u8 0, .int .u8 0, .int .u8 0, .int .u8 0, .int .u8 0, .int .u8 0, .int .u8 0, (.slice none 0 0), .int .i64 0] 71))
  have HG := Lib.hid (grown_three w (.cells #[.int .i64 1, .int .u64 0, .int .u8 0, .int .u8 0, .int .u8 0, .int .u8 0, .int .u8 0, .int .u8 0, .int .u8 0, .int .u8 0, .int .u8 0, (.slice none 0 0), .int .i64 0] 71) (.cells #[.int .i64 0, .int .u64 0, .int .u8 0, .int .u8 0, .int .u8 0, .int .u8 0, .int .u8 0, .int .u8 0, .int .u8 0, .int .u8 0, .int .u8 0, (.slice none 0 0), .int .i64 0] 71) (.cells #[.int .i64 1, .int .u64 0, .int .u8 0, .int .u8 0, .int .u8 0, .int .u8 0, .int .u8 0, .int .u8 0, .int .u8 0, .int .u8 0, .int .u8 0, (.slice none 0 0), .int .i64 0] 71) (some p))
  have hbm := blk_mid w (.cells #[.int .i64 1, .int .u64 0, .int .u8 0, .int .u8 0, .int .u8 0, .int .u8 0, .int .u8 0, .int .u8 0, .int .u8 0, .int .u8 0, .int .u8 0, (.slice none 0 0), .int .i64 0] 71) (.cells #[.int .i64 0, .int .u64 0, .int .u8 0, .int .u8 0, .int .u8 0, .int .u8 0, .int .u8 0, .int .u8 0, .int .u8 0, .int .u8 0, .int .u8 0, (.slice none 0 0), .int .i64 0] 71) (.cells #[.int .i64 1, .int .u64 0, .int .u8 0, .int .u8 0, .int .u8 0, .int .u8 0, .int .u8 0, .int .u8 0, .int .u8 0, .int .u8 0, .int .u8 0, (.slice none 0 0), .int .i64 0] 71) _ _ rfl
  have hbf := blk_first w (.cells #[.int .i64 1, .int .u64 0, .int .u8 0, .int .u8 0, .int .u8 0, .int .u8 0, .int .u8 0, .int .u8 0, .int .u8 0, .int .u8 0, .int .u8 0, (.slice none 0 0), .int .i64 0] 71) (.cells #[.int .i64 0, .int .u64 0, .int .u8 0, .int .u8 0, .int .u8 0, .int .u8 0, .int .u8 0, .int .u8 0, .int .u8 0, .int .u8 0, .int .u8 0, (.slice none 0 0), .int .i64 0] 71) (.cells #[.int .i64 1, .int .u64 0, .int .u8 0, .int .u8 0, .int .u8 0, .int .u8 0, .int .u8 0, .int .u8 0, .int .u8 0, .int .u8 0, .int .u8 0, (.slice none 0 0), .int .i64 0] 71) _ _ rfl
  have hpl := hc.lt
  obtain ⟨A, c, y0, y1, f0, f1, _, _, HR⟩ := hc1.cells
  have x0 := hbf.cell 0
  simp at x0 y0 y1
  have HC := Lib.hid hc1
  clear hc hc1 HR
  have hsz : (((w.alloc (.cells #[.int .i64 1, .int .u64 0, .int .u8 0, .int .u8 0, .int .u8 0, .int .u8 0, .int .u8 0, .int .u8 0, .int .u8 0, .int .u8 0, .int .u8 0, (.slice none 0 0), .int .i64 0] 71)).alloc (.cells #[.int .i64 0, .int .u64 0, .int .u8 0, .int .u8 0, .int .u8 0, .int .u8 0, .int .u8 0, .int .u8 0, .int .u8 0, .int .u8 0, .int .u8 0, (.slice none 0 0), .int .i64 0] 71)).alloc (.cells #[.int .i64 1, .int .u64 0, .int .u8 0, .int .u8 0, .int .u8 0, .int .u8 0, .int .u8 0, .int .u8 0, .int .u8 0, .int .u8 0, .int .u8 0, (.slice none 0 0), .int .i64 0] 71)).heap.size = w.heap.size + 3 := by simp
  clear hbf
  go_enter Try.func40, Try.ntmps40
  go_upto_region 2 with (fail)
  generalize ((w.alloc (.cells #[.int .i64 1, .int .u64 0, .int .u8 0, .int .u8 0, .int .u8 0, .int .u8 0, .int .u8 0, .int .u8 0, .int .u8 0, .int .u8 0, .int .u8 0, (.slice none 0 0), .int .i64 0] 71)).alloc (.cells #[.int .i64 0, .int .u64 0, .int .u8 0, .int .u8 0, .int .u8 0, .int .u8 0, .int .u8 0, .int .u8 0, .int .u8 0, .int .u8 0, .int .u8 0, (.slice none 0 0), .int .i64 0] 71)).alloc (.cells #[.int .i64 1, .int .u64 0, .int .u8 0, .int .u8 0, .int .u8 0, .int .u8 0, .int .u8 0, .int .u8 0, .int .u8 0, .int .u8 0, .int .u8 0, (.slice none 0 0), .int .i64 0] 71) = W0 at HG hbm HC y0 y1 f0 f1 x0 hsz ⊢
  have hbm1 := (hbm.far (p := ⟨p, 0, none⟩) (by simp; omega) (.slice none 0 0)).far (p := ⟨p, 1, none⟩) (by simp; omega) (.int .i64 4)
  have HE := Lib.hid (rread_end #[.int .i64 1, .int .u64 0, .int .u8 0, .int .u8 0, .int .u8 0, .int .u8 0, .int .u8 0, .int .u8 0, .int .u8 0, .int .u8 0, .int .u8 0, (.slice none 0 0), .int .i64 0] hpl (HC.out.err 4 4 rfl) (grown_set (grown_set HG.out ⟨p, 0, none⟩ (.slice none 0 0) (.inl rfl)) ⟨p, 1, none⟩ (.int .i64 4) (.inl rfl)) hbm1)
  have HM1 := Lib.hid hbm1
  clear hbm hbm1
  go_upto_region 32 with (fail)
  refine wp_region_lit ?_
  iterate 3 (refine wpList_plain rfl fun K hK => ?_; go_simp; refine hK _ _ ?_; clear hK K)
  refine wpList_store_row rfl 71 (.tmp 4) (.tmp 155) rfl (w.heap.size + 1) #[.int .i64 1, .int .u64 0, .int .u8 0, .int .u8 0, .int .u8 0, .int .u8 0, .int .u8 0, .int .u8 0, .int .u8 0, .int .u8 0, .int .u8 0, (.slice none 0 0), .int .i64 0] rfl rfl 71 _ HM1.out info_pc rfl (pc_one _ _ _ _ _ _ _) ?_
  go_wp2
  exact bodyPost_ret (results_cell_row rfl _ _ (w.heap.size + 1) 71 _ (0, 0) _ rfl HE.out.2.2 Try.underlying71 rfl info_pc) rfl ⟨rfl, HE.out.1, HE.out.2.1⟩
set_option maxHeartbeats 4000000 in
set_option maxRecDepth 100000 in
theorem rread_byte_cons (p : Nat) (x : UInt8) (r : List UInt8) (w : World) (hc : RCur w D p 0 (x :: r)) :
    Calls Try.prog 40 #[.pointer (some ⟨p, 0, none⟩), .agg #[.int .i64 1, .int .u64 0, .int .u8 0, .int .u8 0, .int .u8 0, .int .u8 0, .int .u8 0, .int .u8 0, .int .u8 0, .int .u8 0, .int .u8 0, (.slice none 0 0), .int .i64 0]] w fun e w' => e = .returned (.agg #[.int .i64 1, .int .u64 0, .int .u8 (x.toNat : Int), .int .u8 0, .int .u8 0, .int .u8 0, .int .u8 0, .int .u8 0, .int .u8 0, .int .u8 0, .int .u8 0, (.slice none 0 0), .int .i64 0]) ∧ RCur w' D p 0 r ∧ w.grownBy w' (some p) := by
  have hc1 := hc.below (below_three w (.cells #[.int .i64 1, .int .u64 0, .int .u8 0, .int .u8 0, .int .u8 0, .int .u8 0, .int .u8 0, .int .u8 0, .int .u8 0, .int .u8 0, .int .u8 0, (.slice none 0 0), .int .i64 0] 71) (.cells #[.int .i64 0, .int .u64 0, .int .u8 0, .int .u8 0, .int .u8 0, .int .u8 0, .int .u8 0, .int .u8 0, .int .u8 0, .int .u8 0, .int .u8 0, (.slice none 0 0), .int .i64 0] 71) (.cells #[.int .i64 1, .int .u64 0, .int .u8 0, .int .u8 0, .int .u8 0, .int .u8 0, .int .u8 0, .int .u8 0, .int .u8 0, .int .u8 0, .int .u8 0, (.slice none 0 0), .int .i64 0] 71))
  have HG := Lib.hid (grown_three w (.cells #[.int .i64 1, .int .u64 0, .int .u8 0, .int .u8 0, .int .u8 0, .int .u8 0, .int .u8 0, .int .u8 0, .int .u8 0, .int .u8 0, .int .u8 0, (.slice none 0 0), .int .i64 0] 71) (.cells #[.int .i64 0, .int .u64 0, .int .u8 0, .int .u8 0, .int .u8 0, .int .u8 0, .int .u8 0, .int .u8 0, .int .u8 0, .int .u8 0, .int .u8 0, (.slice none 0 0), .int .i64 0] 71) (.cells #[.int .i64 1, .int .u64 0, .int .u8 0, .int .u8 0, .int .u8 0, .int .u8 0, .int .u8 0, .int .u8 0, .int .u8 0, .int .u8 0, .int .u8 0, (.slice none 0 0), .int .i64 0] 71) (some p))
  have hbm := blk_mid w (.cells #[.int .i64 1, .int .u64 0, .int .u8 0, .int .u8 0, .int .u8 0, .int .u8 0, .int .u8 0, .int .u8 0, .int .u8 0, .int .u8 0, .int .u8 0, (.slice none 0 0), .int .i64 0] 71) (.cells #[.int .i64 0, .int .u64 0, .int .u8 0, .int .u8 0, .int .u8 0, .int .u8 0, .int .u8 0, .int .u8 0, .int .u8 0, .int .u8 0, .int .u8 0, (.slice none 0 0), .int .i64 0] 71) (.cells #[.int .i64 1, .int .u64 0, .int .u8 0, .int .u8 0, .int .u8 0, .int .u8 0, .int .u8 0, .int .u8 0, .int .u8 0, .int .u8 0, .int .u8 0, (.slice none 0 0), .int .i64 0] 71) _ _ rfl
  have hbf := blk_first w (.cells #[.int .i64 1, .int .u64 0, .int .u8 0, .int .u8 0, .int .u8 0, .int .u8 0, .int .u8 0, .int .u8 0, .int .u8 0, .int .u8 0, .int .u8 0, (.slice none 0 0), .int .i64 0] 71) (.cells #[.int .i64 0, .int .u64 0, .int .u8 0, .int .u8 0, .int .u8 0, .int .u8 0, .int .u8 0, .int .u8 0, .int .u8 0, .int .u8 0, .int .u8 0, (.slice none 0 0), .int .i64 0] 71) (.cells #[.int .i64 1, .int .u64 0, .int .u8 0, .int .u8 0, .int .u8 0, .int .u8 0, .int .u8 0, .int .u8 0, .int .u8 0, .int .u8 0, .int .u8 0, (.slice none 0 0), .int .i64 0] 71) _ _ rfl
  have hbl := blk_last w (.cells #[.int .i64 1, .int .u64 0, .int .u8 0, .int .u8 0, .int .u8 0, .int .u8 0, .int .u8 0, .int .u8 0, .int .u8 0, .int .u8 0, .int .u8 0, (.slice none 0 0), .int .i64 0] 71) (.cells #[.int .i64 0, .int .u64 0, .int .u8 0, .int .u8 0, .int .u8 0, .int .u8 0, .int .u8 0, .int .u8 0, .int .u8 0, .int .u8 0, .int .u8 0, (.slice none 0 0), .int .i64 0] 71) (.cells #[.int .i64 1, .int .u64 0, .int .u8 0, .int .u8 0, .int .u8 0, .int .u8 0, .int .u8 0, .int .u8 0, .int .u8 0, .int .u8 0, .int .u8 0, (.slice none 0 0), .int .i64 0] 71) _ _ rfl
  have hpl := hc.lt
  have hDp := hc.low
  obtain ⟨A, c, y0, y1, f0, f1, hlc, hlm, HR⟩ := hc1.cells
  have x0 := hbf.cell 0
  simp at x0 y0 y1 hlc hlm
  have HC := Lib.hid hc1
  have hsz : (((w.alloc (.cells #[.int .i64 1, .int .u64 0, .int .u8 0, .int .u8 0, .int .u8 0, .int .u8 0, .int .u8 0, .int .u8 0, .int .u8 0, .int .u8 0, .int .u8 0, (.slice none 0 0), .int .i64 0] 71)).alloc (.cells #[.int .i64 0, .int .u64 0, .int .u8 0, .int .u8 0, .int .u8 0, .int .u8 0, .int .u8 0, .int .u8 0, .int .u8 0, .int .u8 0, .int .u8 0, (.slice none 0 0), .int .i64 0] 71)).alloc (.cells #[.int .i64 1, .int .u64 0, .int .u8 0, .int .u8 0, .int .u8 0, .int .u8 0, .int .u8 0, .int .u8 0, .int .u8 0, .int .u8 0, .int .u8 0, (.slice none 0 0), .int .i64 0] 71)).heap.size = w.heap.size + 3 := by simp
  clear hc hc1 hbf
  go_enter Try.func40, Try.ntmps40
  go_upto_region 2 with (fail)
  generalize ((w.alloc (.cells #[.int .i64 1, .int .u64 0, .int .u8 0, .int .u8 0, .int .u8 0, .int .u8 0, .int .u8 0, .int .u8 0, .int .u8 0, .int .u8 0, .int .u8 0, (.slice none 0 0), .int .i64 0] 71)).alloc (.cells #[.int .i64 0, .int .u64 0, .int .u8 0, .int .u8 0, .int .u8 0, .int .u8 0, .int .u8 0, .int .u8 0, .int .u8 0, .int .u8 0, .int .u8 0, (.slice none 0 0), .int .i64 0] 71)).alloc (.cells #[.int .i64 1, .int .u64 0, .int .u8 0, .int .u8 0, .int .u8 0, .int .u8 0, .int .u8 0, .int .u8 0, .int .u8 0, .int .u8 0, .int .u8 0, (.slice none 0 0), .int .i64 0] 71) = W0 at HG hbm hbl HC HR y0 y1 f0 f1 x0 hsz ⊢
  obtain ⟨b, o, x', rfl, hbD, hx', hcell⟩ := HR.out.at_ (i := 0) (by simp)
  obtain rfl : x = x' := by simpa using hx'
  have z0 : W0.cell? ⟨b, o, none⟩ = some (.int .u8 (x.toNat : Int)) := hcell
  have hlen : (((r.length + 1 : Nat) : Int) == 0) = false := by simp; omega
  have hlt0 : (0 : Int) < ((r.length + 1 : Nat) : Int) := by omega
  have hle1 : (1 : Int) ≤ ((r.length + 1 : Nat) : Int) := by omega
  have q2 := hbl.frozen 2
  have q2c := hbl.cell 2
  simp at q2c
  clear hx' hcell
  generalize hm : r.length = m at *
  go_upto_region 17 with (fail)
  have k0 : W0.drew.cell? ⟨p, 0, none⟩ = some (.slice (some ⟨b, o, none⟩) (m + 1) c) := y0
  have k1 : W0.drew.cell? ⟨b, o, none⟩ = some (.int .u8 (x.toNat : Int)) := z0
  have k0' : (W0.drew.setCell ⟨w.heap.size + 1 + 1, 2, none⟩ (.int .u8 (x.toNat : Int))).cell? ⟨p, 0, none⟩ = some (.slice (some ⟨b, o, none⟩) (m + 1) c) := by rw [World.cell?_setCell_far _ _ _ _ (by simp; omega)]; exact y0
  have k1' : (W0.drew.setCell ⟨w.heap.size + 1 + 1, 2, none⟩ (.int .u8 (x.toNat : Int))).cell? ⟨b, o, none⟩ = some (.int .u8 (x.toNat : Int)) := by rw [World.cell?_setCell_far _ _ _ _ (by simp; omega)]; exact z0
  have q2' : W0.drew.frozen? ⟨w.heap.size + 1 + 1, 2, none⟩ = false := q2
  have q2c' : W0.drew.cell? ⟨w.heap.size + 1 + 1, 2, none⟩ = some (.int .u8 0) := q2c
  have e1 : (1 : Int) ≤ (m : Int) + 1 := by omega
  have e2 : (m : Int) + 1 ≤ (c : Int) := by omega
  have e3 : (0 : Int) ≤ (m : Int) + 1 := by omega
  go_region_held3 (fun w' => w'.cell? ⟨p, 0, none⟩ = some (.slice (some ⟨b, o, none⟩) (m + 1) c) ∧ w'.cell? ⟨b, o, none⟩ = some (.int .u8 (x.toNat : Int))) (first | exact ⟨k0, k1⟩ | exact ⟨k0', k1'⟩) (first | fail)
  have hrd : Rd B8 (W0.setCell ⟨w.heap.size + 1 + 1, 2, none⟩ (.int .u8 (x.toNat : Int))).drew (fun b => b < D) (if c = 1 then some ⟨b, o, none⟩ else some ⟨b, o + 1, none⟩) r := by
    by_cases h : c = 1
    · have hr0 : r = [] := List.eq_nil_of_length_eq_zero (by omega)
      rw [hr0]; exact Rd.nil
    · rw [if_neg h]
      have h2 : Rd B8 W0 (fun b => b < D) (some ⟨b, o + 1, none⟩) r := HR.out.drop 1
      exact (h2.far (fun b hb => by simp; omega) _).drew
  have hbm1 : Blk (W0.setCell ⟨w.heap.size + 1 + 1, 2, none⟩ (.int .u8 (x.toNat : Int))).drew (w.heap.size + 1) 71 #[.int .i64 0, .int .u64 0, .int .u8 0, .int .u8 0, .int .u8 0, .int .u8 0, .int .u8 0, .int .u8 0, .int .u8 0, .int .u8 0, .int .u8 0, (.slice none 0 0), .int .i64 0] := (hbm.far (by simp) _).drew
  have hbl1 : Blk (W0.setCell ⟨w.heap.size + 1 + 1, 2, none⟩ (.int .u8 (x.toNat : Int))).drew (w.heap.size + 1 + 1) 71 #[.int .i64 1, .int .u64 0, .int .u8 (x.toNat : Int), .int .u8 0, .int .u8 0, .int .u8 0, .int .u8 0, .int .u8 0, .int .u8 0, .int .u8 0, .int .u8 0, (.slice none 0 0), .int .i64 0] := (hbl.set_ 2 _).drew
  have HC1 : Hid (RCur (W0.setCell ⟨w.heap.size + 1 + 1, 2, none⟩ (.int .u8 (x.toNat : Int))).drew D p 0 (x :: r)) := HC.out.far (a := ⟨w.heap.size + 1 + 1, 2, none⟩) (by simp; omega) (by simp; omega) _
  have HG1 : Hid (w.grownBy (W0.setCell ⟨w.heap.size + 1 + 1, 2, none⟩ (.int .u8 (x.toNat : Int))).drew (some p)) := grown_drewN (grown_set HG.out ⟨w.heap.size + 1 + 1, 2, none⟩ _ (.inr (by simp; omega))) 1
  have g0 : (W0.setCell ⟨w.heap.size + 1 + 1, 2, none⟩ (.int .u8 (x.toNat : Int))).drew.cell? ⟨p, 0, none⟩ = some (.slice (some ⟨b, o, none⟩) (m + 1) c) := k0'
  obtain ⟨_, _, _, _, g1, g2, _⟩ := HC1.out.cells
  have hc1c : m ≤ c - 1 := by omega
  have hm6 : m ≤ 1000000 := by omega
  clear k0 k1 k0' k1' q2' q2c' q2 q2c z0 y0 y1 f0 f1 x0 hbm hbl HC HR HG hsz e1 e2 e3 hlen hlt0 hle1 hlc
  generalize (W0.setCell ⟨w.heap.size + 1 + 1, 2, none⟩ (.int .u8 (x.toNat : Int))).drew = W1 at *
  generalize (if c = 1 then some (⟨b, o, none⟩ : Addr) else some ⟨b, o + 1, none⟩) = A' at *
  generalize c - 1 = c' at *
  have hbm2 := Lib.hid (hbm1.far (p := ⟨p, 0, none⟩) (by simp; omega) (.slice A' m c'))
  have hbl2 := Lib.hid (hbl1.far (p := ⟨p, 0, none⟩) (by simp; omega) (.slice A' m c'))
  have HE := Lib.hid (rread_end #[.int .i64 1, .int .u64 0, .int .u8 (x.toNat : Int), .int .u8 0, .int .u8 0, .int .u8 0, .int .u8 0, .int .u8 0, .int .u8 0, .int .u8 0, .int .u8 0, (.slice none 0 0), .int .i64 0] hpl (HC1.out.rest hm hc1c hm6 hrd) (grown_set HG1.out ⟨p, 0, none⟩ (.slice A' m c') (.inl rfl)) hbm2.out)
  clear hbm1 hbl1 hrd
  go_upto_region 34 with (fail)
  refine wp_region_lit ?_
  refine wpList_load_row rfl 71 (.tmp 5) rfl (w.heap.size + 1 + 1) rfl 71 #[.int .i64 1, .int .u64 0, .int .u8 (x.toNat : Int), .int .u8 0, .int .u8 0, .int .u8 0, .int .u8 0, .int .u8 0, .int .u8 0, .int .u8 0, .int .u8 0, (.slice none 0 0), .int .i64 0] (0, 0) _ hbl2.out Try.underlying71 rfl info_pc ?_
  refine wpList_store_row rfl 71 (.tmp 4) (.tmp 160) rfl (w.heap.size + 1) #[.int .i64 1, .int .u64 0, .int .u8 (x.toNat : Int), .int .u8 0, .int .u8 0, .int .u8 0, .int .u8 0, .int .u8 0, .int .u8 0, .int .u8 0, .int .u8 0, (.slice none 0 0), .int .i64 0] rfl rfl 71 _ hbm2.out info_pc rfl (pc_one _ _ _ _ _ _ _) ?_
  go_wp2
  exact bodyPost_ret (results_cell_row rfl _ _ (w.heap.size + 1) 71 _ (0, 0) _ rfl HE.out.2.2 Try.underlying71 rfl info_pc) rfl ⟨rfl, HE.out.1, HE.out.2.1⟩
end Go.Proofs.Ytogdbccfkbbcaaa
