/- The walk of the reference's Encode: it is the program's own. -/
import Derived.Test.YtogdbccfkbbcaaaRefC
import Derived.Test.YtogdbccfkbbcaaaRefVar
import Derived.Test.YtogdbccfkbbcaaaRefCrc
namespace Go.Proofs.Ytogdbccfkbbcaaa
open Go.RowKit
set_option linter.unusedSimpArgs false
/-- A row of bytes of the call's own. -/
def Rw (w : World) (base n : Nat) (v : Value) (L : List UInt8) : Prop := w.ownsRow base 5 1 v n (L.map B8)
section
variable {w w' : World} {base n : Nat} {v : Value} {L : List UInt8}
theorem Rw.below (h : Rw w base n v L) (hb : Below w.heap.size w w') : Rw w' base n v L := by
  have h' : w.ownsRow base 5 1 v n (L.map B8) := h
  show w'.ownsRow base 5 1 v n (L.map B8)
  cases ho : v.ownBlock with
  | none => exact h'.kept (row := none) (grown_of_below hb none) (.inl ho)
  | some k => exact h'.kept (row := none) (grown_of_below hb none) (.inr (by rw [ho]; simp))
theorem Rw.alloc (h : Rw w base n v L) (o : Obj) : Rw (w.alloc o) base n v L := World.ownsRow.alloc h o
theorem Rw.lt (h : Rw w base n v L) : ∀ k, v.ownBlock = some k → base ≤ k ∧ k < w.heap.size := World.ownsRow.lt h
theorem Rw.lit (w : World) (cs : Array Value) (hb : base ≤ w.heap.size) (hL : cs.toList = L.map B8) (hn : cs.size = n) (hm : n ≤ 1000000) : Rw (w.alloc (.cells cs 5)) base n (.slice (some ⟨w.heap.size, 0, none⟩) n n) L := by
  show World.ownsRow _ base 5 1 _ n (L.map B8)
  rw [← hL]
  exact World.ownsRow_lit w cs n hb (by unfold maxLen; omega) (by omega)
end
theorem wpList_append_rw {ops : Array Oper} {rest : List Oper} {o : Oper} {a : Act} {w : World} {Q : Exit → Act → World → Prop} (hgd : o.guard = none) (s x : Operand)
    (ho : o.op = .call { callee := .builtin .append, args := #[s, x], argTypes := #[36, 36] }) {S : Nat → Prop} (base : Nat)
    (v : Value) (n : Nat) (L : List UInt8) (hs : a.eval s = v) (hown : Rw w base n v L)
    (A : Option Addr) (m c : Nat) (l : List UInt8) (hx : a.eval x = .slice A m c) (hm : l.length = m) (hr : Rd B8 w S A l)
    (h63 : n + m ≤ 1000000) (hbase : base ≤ w.heap.size)
    (h : ∀ v' w', Rw w' base (n + m) v' (L ++ l) → w.grownBy w' v.ownBlock → wpList Try.prog ops Q rest (a.put o.dst v') w') : wpList Try.prog ops Q (o :: rest) a w := by
  obtain ⟨i0, hi, hz0, hz1, hz2⟩ := info_parts info5
  refine wpList_append_rd w hgd s x 36 ho (enc := B8) (S := S) base 5 i0 (.int .u8 0) 1 Try.underlying36 hi hz0 hz1 hz2 rfl v n (L.map B8) hs hown A m c l hx hm hr one8 (by unfold maxLen; omega) (by omega) hbase ?_
  intro v' w' h1 h2 _
  exact h v' w' (by show World.ownsRow _ base _ 1 v' (n + m) ((L ++ l).map B8); rw [List.map_append]; exact h1) h2
theorem rencode_bad (f : Fr) (A : Option Addr) (n c : Nat) (hn : f.data.length = n) (w : World) (he : checkE f ≠ 0) :
    Calls Try.prog 17 #[.agg #[.int .u8 (f.kind.toNat : Int), .int .u8 (f.frm.toNat : Int), .int .u8 (f.too.toNat : Int), .int .u32 (f.sess : Int), .int .u32 (f.seq : Int), .int .u8 (f.part.toNat : Int), .int .u32 (f.off : Int), .bool f.last, .slice A n c]] w fun r w' => r = .returned (.tuple #[.slice none 0 0, .int .i64 (checkE f : Int)]) ∧ Below w.heap.size w w' := by
  have ht : ((checkE f : Int) != 0) = true := by simp; omega
  have HN := Lib.hid hn
  have hb0 := Blk.new w 38 #[.int .u8 (f.kind.toNat : Int), .int .u8 (f.frm.toNat : Int), .int .u8 (f.too.toNat : Int), .int .u32 (f.sess : Int), .int .u32 (f.seq : Int), .int .u8 (f.part.toNat : Int), .int .u32 (f.off : Int), .bool f.last, .slice A n c]
  obtain ⟨y0, y1, y2, y3, y4, y5, y6, y7, y8⟩ := frCells hb0
  clear he hn
  go_enter Try.func17, Try.ntmps17
  go_wp2_with fail
  clear y0 y1 y2 y3 y4 y5 y6 y7 y8
  refine (rcheck_calls f A n c HN.out _).mono ?_
  rintro r w1 ⟨rfl, hb⟩
  have HB := Lib.hid (((Below.refl w.heap.size w).alloc (Nat.le_refl _) (.cells #[.int .u8 (f.kind.toNat : Int), .int .u8 (f.frm.toNat : Int), .int .u8 (f.too.toNat : Int), .int .u32 (f.sess : Int), .int .u32 (f.seq : Int), .int .u8 (f.part.toNat : Int), .int .u32 (f.off : Int), .bool f.last, .slice A n c] 38)).trans (hb.mono (by simp)))
  clear hb
  go_wp2
  go_ret2
  exact ⟨rfl, HB.out⟩
set_option maxHeartbeats 4000000 in
set_option maxRecDepth 100000 in
theorem rencode_good (f : Fr) (A : Option Addr) (n c : Nat) (hn : f.data.length = n) (w : World) (he : checkE f = 0) (hse : f.sess < 4294967296) (hsq : f.seq < 4294967296) (hof : f.off < 4294967296) (hr : Rd B8 w (fun b => b < w.heap.size) A f.data) :
    Calls Try.prog 17 #[.agg #[.int .u8 (f.kind.toNat : Int), .int .u8 (f.frm.toNat : Int), .int .u8 (f.too.toNat : Int), .int .u32 (f.sess : Int), .int .u32 (f.seq : Int), .int .u8 (f.part.toNat : Int), .int .u32 (f.off : Int), .bool f.last, .slice A n c]] w fun r w' => ∃ A' c', r = .returned (.tuple #[.slice A' (encS f).length c', .int .i64 0]) ∧ (encS f).length ≤ c' ∧ Rd B8 w' (fun b => w.heap.size ≤ b) A' (encS f) ∧ Below w.heap.size w w' := by
  have ht : ((checkE f : Int) != 0) = false := by simp; omega
  have hd := checkE_zero f he
  have HN := Lib.hid hn
  have hb0 := Blk.new w 38 #[.int .u8 (f.kind.toNat : Int), .int .u8 (f.frm.toNat : Int), .int .u8 (f.too.toNat : Int), .int .u32 (f.sess : Int), .int .u32 (f.seq : Int), .int .u8 (f.part.toNat : Int), .int .u32 (f.off : Int), .bool f.last, .slice A n c]
  have hr0 := hr.alloc (.cells #[.int .u8 (f.kind.toNat : Int), .int .u8 (f.frm.toNat : Int), .int .u8 (f.too.toNat : Int), .int .u32 (f.sess : Int), .int .u32 (f.seq : Int), .int .u8 (f.part.toNat : Int), .int .u32 (f.off : Int), .bool f.last, .slice A n c] 38)
  have hB0 : Below w.heap.size w (w.alloc (.cells #[.int .u8 (f.kind.toNat : Int), .int .u8 (f.frm.toNat : Int), .int .u8 (f.too.toNat : Int), .int .u32 (f.sess : Int), .int .u32 (f.seq : Int), .int .u8 (f.part.toNat : Int), .int .u32 (f.off : Int), .bool f.last, .slice A n c] 38)) := (Below.refl _ _).alloc (Nat.le_refl _) _
  have hs0 : (w.alloc (.cells #[.int .u8 (f.kind.toNat : Int), .int .u8 (f.frm.toNat : Int), .int .u8 (f.too.toNat : Int), .int .u32 (f.sess : Int), .int .u32 (f.seq : Int), .int .u8 (f.part.toNat : Int), .int .u32 (f.off : Int), .bool f.last, .slice A n c] 38)).heap.size = w.heap.size + 1 := World.size_alloc _ _
  obtain ⟨y0, y1, y2, y3, y4, y5, y6, y7, y8⟩ := frCells hb0
  rw [hn] at hd
  have z1 := szS_rng f.sess
  have z2 := szS_rng f.seq
  have z3 := szS_rng f.off
  have z4 := szS_rng n
  have wv1 : IntKind.u64.wrap (f.sess : Int) = (f.sess : Int) := wrap_u64_nat _ (by omega)
  have wv2 : IntKind.u64.wrap (f.seq : Int) = (f.seq : Int) := wrap_u64_nat _ (by omega)
  have wv3 : IntKind.u64.wrap (f.off : Int) = (f.off : Int) := wrap_u64_nat _ (by omega)
  have wv4 : IntKind.u64.wrap (n : Int) = (n : Int) := wrap_u64_nat _ (by omega)
  clear he hn hr
  go_enter Try.func17, Try.ntmps17
  go_wp2_with fail
  clear y0 y1 y2 y3 y4 y5 y6 y7 y8
  generalize w.alloc (.cells #[.int .u8 (f.kind.toNat : Int), .int .u8 (f.frm.toNat : Int), .int .u8 (f.too.toNat : Int), .int .u32 (f.sess : Int), .int .u32 (f.seq : Int), .int .u8 (f.part.toNat : Int), .int .u32 (f.off : Int), .bool f.last, .slice A n c] 38) = W0 at hb0 hs0 hr0 hB0 ⊢
  refine (rcheck_calls f A n c HN.out _).mono ?_
  rintro r W1 ⟨rfl, hb1⟩
  have hs1 := hb1.size
  have hf1 := hb0.below hb1 (by omega)
  have hr1 := hr0.below hb1
  have HB1 := Lib.hid (hB0.trans (hb1.mono (by omega)))
  rw [hs0] at hs1
  clear hb1 hB0 hb0 hr0 hs0
  obtain ⟨y0, y1, y2, y3, y4, y5, y6, y7, y8⟩ := frCells hf1
  have hl2 := hf1.alloc (.cells #[.int .u8 (f.kind.toNat : Int), .int .u8 (f.frm.toNat : Int), .int .u8 (f.too.toNat : Int)] 5)
  have hr2 := hr1.alloc (.cells #[.int .u8 (f.kind.toNat : Int), .int .u8 (f.frm.toNat : Int), .int .u8 (f.too.toNat : Int)] 5)
  have ho2 := Rw.lit (base := w.heap.size + 1) (n := 3) (L := [f.kind, f.frm, f.too]) W1 #[.int .u8 (f.kind.toNat : Int), .int .u8 (f.frm.toNat : Int), .int .u8 (f.too.toNat : Int)] hs1 rfl rfl (by omega)
  have hs2 : w.heap.size + 1 ≤ (W1.alloc (.cells #[.int .u8 (f.kind.toNat : Int), .int .u8 (f.frm.toNat : Int), .int .u8 (f.too.toNat : Int)] 5)).heap.size := by rw [World.size_alloc]; omega
  have HB2 := Lib.hid (HB1.out.alloc (by omega) (.cells #[.int .u8 (f.kind.toNat : Int), .int .u8 (f.frm.toNat : Int), .int .u8 (f.too.toNat : Int)] 5))
  have hcell : ∀ (q : Bool), f.last = q → Hid ((.int .u8 ((bit8 f.last).toNat : Int) : Value) = .int .u8 (if q then 1 else 0)) := by rintro q rfl; show _ = _; cases f.last <;> rfl
  obtain ⟨La, hLa⟩ : ∃ La, f.last = La := ⟨_, rfl⟩
  have HL := hcell La hLa
  rw [hLa] at y7
  clear hLa
  obtain ⟨x0, x1, x2, x3, x4, x5, x6, x7, x8⟩ := frCells hl2
  clear hcell
  cases La <;>
  · simp only [if_true, if_false, Bool.false_eq_true] at HL
    go_wp2_with fail
    clear y0 y1 y2 y3 y4 y5 y6 y7 y8 x0 x1 x2 x3 x4 x5 x6 x7 x8
    generalize W1.alloc (.cells #[.int .u8 (f.kind.toNat : Int), .int .u8 (f.frm.toNat : Int), .int .u8 (f.too.toNat : Int)] 5) = W2 at hl2 hr2 ho2 hs2 HB2 ⊢
    clear hf1 hr1 hs1 HB1
    have hf2 := hl2
    have HO2 := Lib.hid ho2
    clear hl2 ho2
    refine (rvar f.sess _ (by omega)).mono ?_
    rintro r U2 ⟨B2, e2, rfl, hc2, hl2, hb2⟩
    have hfu := hf2.below hb2 (by omega)
    have hru := hr2.below hb2
    have HOu := Lib.hid (Rw.below HO2.out hb2)
    have hsu := Nat.le_trans hs2 hb2.size
    have HBu := Lib.hid (HB2.out.trans (hb2.mono (by omega)))
    clear hb2 hf2 hr2 HO2 HB2 hc2
    go_wp2_with (at_builtin; refine wpList_append_rw rfl (.tmp 21) (.tmp 25) rfl (w.heap.size + 1) (.slice (some ⟨W1.heap.size, 0, none⟩) 3 3) (3) ([f.kind, f.frm, f.too]) rfl HOu.out B2 (szS f.sess) e2 (varL f.sess) rfl (varL_length _) hl2 (by omega) hsu ?_)
    intro v3 W3 ho3 hg3
    have hf3 := hfu.grown hg3 (own_blk_ne HOu.out hfu (by decide)).symm
    have hr3 := hru.grown hg3 (fun b hb he => by have := Rw.lt HOu.out b he.symm; omega)
    have hs3 : w.heap.size + 1 ≤ W3.heap.size := Nat.le_trans hsu hg3.size
    have HB3 := Lib.hid (HBu.out.grown hg3 (by omega) (fun b he => by have := Rw.lt HOu.out b he; omega))
    have HO3 : Hid (Rw W3 (w.heap.size + 1) (3 + szS f.sess) v3 ([f.kind, f.frm, f.too] ++ varL f.sess)) := by show Rw _ _ _ _ _; simpa only [List.append_assoc, List.cons_append, List.nil_append] using ho3
    clear hg3 hfu hru HOu HBu ho3
    clear hl2
    obtain ⟨_, _, _, _, q4, _, _, _, _⟩ := frCells hf3
    go_wp2_with fail
    clear q4
    refine (rvar f.seq _ (by omega)).mono ?_
    rintro r U3 ⟨B3, e3, rfl, hc3, hl3, hb3⟩
    have hfu := hf3.below hb3 (by omega)
    have hru := hr3.below hb3
    have HOu := Lib.hid (Rw.below HO3.out hb3)
    have hsu := Nat.le_trans hs3 hb3.size
    have HBu := Lib.hid (HB3.out.trans (hb3.mono (by omega)))
    clear hb3 hf3 hr3 HO3 HB3 hc3
    go_wp2_with (at_builtin; refine wpList_append_rw rfl (.tmp 27) (.tmp 31) rfl (w.heap.size + 1) v3 (3 + szS f.sess) ([f.kind, f.frm, f.too] ++ varL f.sess) rfl HOu.out B3 (szS f.seq) e3 (varL f.seq) rfl (varL_length _) hl3 (by omega) hsu ?_)
    intro v4 W4 ho4 hg4
    have hf4 := hfu.grown hg4 (own_blk_ne HOu.out hfu (by decide)).symm
    have hr4 := hru.grown hg4 (fun b hb he => by have := Rw.lt HOu.out b he.symm; omega)
    have hs4 : w.heap.size + 1 ≤ W4.heap.size := Nat.le_trans hsu hg4.size
    have HB4 := Lib.hid (HBu.out.grown hg4 (by omega) (fun b he => by have := Rw.lt HOu.out b he; omega))
    have HO4 : Hid (Rw W4 (w.heap.size + 1) (3 + szS f.sess + szS f.seq) v4 ([f.kind, f.frm, f.too] ++ varL f.sess ++ varL f.seq)) := by show Rw _ _ _ _ _; simpa only [List.append_assoc, List.cons_append, List.nil_append] using ho4
    clear hg4 hfu hru HOu HBu ho4
    clear hl3
    obtain ⟨_, _, _, _, _, q5, _, _, _⟩ := frCells hf4
    go_wp2_with (at_builtin; refine wpList_append_rw rfl (.tmp 33) (.tmp 36) rfl (w.heap.size + 1) v4 (3 + szS f.sess + szS f.seq) ([f.kind, f.frm, f.too] ++ varL f.sess ++ varL f.seq) rfl (Rw.alloc HO4.out _) (some ⟨W4.heap.size, 0, none⟩) 1 1 [f.part] rfl rfl (Rd.blk (t := 5) (S := fun _ => True) (Blk.new _ _ _) trivial) (by omega) (by simp; omega) ?_)
    have HOu := Lib.hid (Rw.alloc HO4.out (.cells #[.int .u8 (f.part.toNat : Int)] 5))
    have hfu := hf4.alloc (.cells #[.int .u8 (f.part.toNat : Int)] 5)
    have hru := hr4.alloc (.cells #[.int .u8 (f.part.toNat : Int)] 5)
    have hsu : w.heap.size + 1 ≤ (W4.alloc (.cells #[.int .u8 (f.part.toNat : Int)] 5)).heap.size := by simp; omega
    have HBu := Lib.hid (HB4.out.alloc (by omega) (.cells #[.int .u8 (f.part.toNat : Int)] 5))
    clear hf4 hr4 HO4 HB4
    intro v5 W5 ho5 hg5
    have hf5 := hfu.grown hg5 (own_blk_ne HOu.out hfu (by decide)).symm
    have hr5 := hru.grown hg5 (fun b hb he => by have := Rw.lt HOu.out b he.symm; omega)
    have hs5 : w.heap.size + 1 ≤ W5.heap.size := Nat.le_trans hsu hg5.size
    have HB5 := Lib.hid (HBu.out.grown hg5 (by omega) (fun b he => by have := Rw.lt HOu.out b he; omega))
    have HO5 : Hid (Rw W5 (w.heap.size + 1) (3 + szS f.sess + szS f.seq + 1) v5 ([f.kind, f.frm, f.too] ++ varL f.sess ++ varL f.seq ++ [f.part])) := by show Rw _ _ _ _ _; simpa only [List.append_assoc, List.cons_append, List.nil_append] using ho5
    clear hg5 hfu hru HOu HBu ho5
    obtain ⟨_, _, _, _, _, _, q6, _, _⟩ := frCells hf5
    go_wp2_with fail
    clear q6
    refine (rvar f.off _ (by omega)).mono ?_
    rintro r U5 ⟨B5, e5, rfl, hc5, hl5, hb5⟩
    have hfu := hf5.below hb5 (by omega)
    have hru := hr5.below hb5
    have HOu := Lib.hid (Rw.below HO5.out hb5)
    have hsu := Nat.le_trans hs5 hb5.size
    have HBu := Lib.hid (HB5.out.trans (hb5.mono (by omega)))
    clear hb5 hf5 hr5 HO5 HB5 hc5
    go_wp2_with (at_builtin; refine wpList_append_rw rfl (.tmp 38) (.tmp 42) rfl (w.heap.size + 1) v5 (3 + szS f.sess + szS f.seq + 1) ([f.kind, f.frm, f.too] ++ varL f.sess ++ varL f.seq ++ [f.part]) rfl HOu.out B5 (szS f.off) e5 (varL f.off) rfl (varL_length _) hl5 (by omega) hsu ?_)
    intro v6 W6 ho6 hg6
    have hf6 := hfu.grown hg6 (own_blk_ne HOu.out hfu (by decide)).symm
    have hr6 := hru.grown hg6 (fun b hb he => by have := Rw.lt HOu.out b he.symm; omega)
    have hs6 : w.heap.size + 1 ≤ W6.heap.size := Nat.le_trans hsu hg6.size
    have HB6 := Lib.hid (HBu.out.grown hg6 (by omega) (fun b he => by have := Rw.lt HOu.out b he; omega))
    have HO6 : Hid (Rw W6 (w.heap.size + 1) (3 + szS f.sess + szS f.seq + 1 + szS f.off) v6 ([f.kind, f.frm, f.too] ++ varL f.sess ++ varL f.seq ++ [f.part] ++ varL f.off)) := by show Rw _ _ _ _ _; simpa only [List.append_assoc, List.cons_append, List.nil_append] using ho6
    clear hg6 hfu hru HOu HBu ho6
    clear hl5
    first
    | (go_wp2_with (at_builtin; refine wpList_append_rw rfl (.tmp 44) (.tmp 46) rfl (w.heap.size + 1) v6 (3 + szS f.sess + szS f.seq + 1 + szS f.off) ([f.kind, f.frm, f.too] ++ varL f.sess ++ varL f.seq ++ [f.part] ++ varL f.off) rfl (Rw.alloc HO6.out _) (some ⟨W6.heap.size, 0, none⟩) 1 1 [bit8 f.last] rfl rfl (Rd.blk (t := 5) (S := fun _ => True) (by show Blk _ _ _ _; simp only [List.map_cons, List.map_nil]; rw [show B8 (bit8 f.last) = _ from HL.out]; exact Blk.new _ _ _) trivial) (by omega) (by simp; omega) ?_))
    intro v7 W7 ho7 hg7
    have HOu := Lib.hid (Rw.alloc HO6.out (.cells #[B8 (bit8 f.last)] 5))
    have hfu := hf6.alloc (.cells #[B8 (bit8 f.last)] 5)
    have hru := hr6.alloc (.cells #[B8 (bit8 f.last)] 5)
    have hsu : w.heap.size + 1 ≤ (W6.alloc (.cells #[B8 (bit8 f.last)] 5)).heap.size := by simp; omega
    have HBu := Lib.hid (HB6.out.alloc (by omega) (.cells #[B8 (bit8 f.last)] 5))
    rw [← show B8 (bit8 f.last) = _ from HL.out] at hg7
    clear hf6 hr6 HO6 HB6
    have hf7 := hfu.grown hg7 (own_blk_ne HOu.out hfu (by decide)).symm
    have hr7 := hru.grown hg7 (fun b hb he => by have := Rw.lt HOu.out b he.symm; omega)
    have hs7 : w.heap.size + 1 ≤ W7.heap.size := Nat.le_trans hsu hg7.size
    have HB7 := Lib.hid (HBu.out.grown hg7 (by omega) (fun b he => by have := Rw.lt HOu.out b he; omega))
    have HO7 : Hid (Rw W7 (w.heap.size + 1) (3 + szS f.sess + szS f.seq + 1 + szS f.off + 1) v7 ([f.kind, f.frm, f.too] ++ varL f.sess ++ varL f.seq ++ [f.part] ++ varL f.off ++ [bit8 f.last])) := by show Rw _ _ _ _ _; simpa only [List.append_assoc, List.cons_append, List.nil_append] using ho7
    clear hg7 hfu hru HOu HBu ho7
    obtain ⟨_, _, _, _, _, _, _, _, q8⟩ := frCells hf7
    go_wp2_with fail
    clear q8
    refine (rvar n _ (by omega)).mono ?_
    rintro r U7 ⟨B7, e7, rfl, hc7, hl7, hb7⟩
    have hfu := hf7.below hb7 (by omega)
    have hru := hr7.below hb7
    have HOu := Lib.hid (Rw.below HO7.out hb7)
    have hsu := Nat.le_trans hs7 hb7.size
    have HBu := Lib.hid (HB7.out.trans (hb7.mono (by omega)))
    clear hb7 hf7 hr7 HO7 HB7 hc7
    go_wp2_with (at_builtin; refine wpList_append_rw rfl (.tmp 48) (.tmp 53) rfl (w.heap.size + 1) v7 (3 + szS f.sess + szS f.seq + 1 + szS f.off + 1) ([f.kind, f.frm, f.too] ++ varL f.sess ++ varL f.seq ++ [f.part] ++ varL f.off ++ [bit8 f.last]) rfl HOu.out B7 (szS n) e7 (varL n) rfl (varL_length _) hl7 (by omega) hsu ?_)
    intro v8 W8 ho8 hg8
    have hf8 := hfu.grown hg8 (own_blk_ne HOu.out hfu (by decide)).symm
    have hr8 := hru.grown hg8 (fun b hb he => by have := Rw.lt HOu.out b he.symm; omega)
    have hs8 : w.heap.size + 1 ≤ W8.heap.size := Nat.le_trans hsu hg8.size
    have HB8 := Lib.hid (HBu.out.grown hg8 (by omega) (fun b he => by have := Rw.lt HOu.out b he; omega))
    have HO8 : Hid (Rw W8 (w.heap.size + 1) (3 + szS f.sess + szS f.seq + 1 + szS f.off + 1 + szS n) v8 ([f.kind, f.frm, f.too] ++ varL f.sess ++ varL f.seq ++ [f.part] ++ varL f.off ++ [bit8 f.last] ++ varL n)) := by show Rw _ _ _ _ _; simpa only [List.append_assoc, List.cons_append, List.nil_append] using ho8
    clear hg8 hfu hru HOu HBu ho8
    clear hl7
    obtain ⟨_, _, _, _, _, _, _, _, q8⟩ := frCells hf8
    go_wp2_with (at_builtin; refine wpList_append_rw rfl (.tmp 55) (.tmp 57) rfl (w.heap.size + 1) v8 (3 + szS f.sess + szS f.seq + 1 + szS f.off + 1 + szS n) ([f.kind, f.frm, f.too] ++ varL f.sess ++ varL f.seq ++ [f.part] ++ varL f.off ++ [bit8 f.last] ++ varL n) rfl HO8.out A n c f.data rfl HN.out hr8 (by omega) hs8 ?_)
    clear q8
    intro v9 W9 ho9 hg9
    have hs9 : w.heap.size + 1 ≤ W9.heap.size := Nat.le_trans hs8 hg9.size
    have HB9 := Lib.hid (HB8.out.grown hg9 (by omega) (fun b he => by have := Rw.lt HO8.out b he; omega))
    clear hg9 hf8 hr8 HO8 HB8
    have hbd : [f.kind, f.frm, f.too] ++ varL f.sess ++ varL f.seq ++ [f.part] ++ varL f.off ++ [bit8 f.last] ++ varL n ++ f.data = bodyS f := by unfold bodyS; rw [HN.out]; simp
    have hbn : (bodyS f).length = 3 + szS f.sess + szS f.seq + 1 + szS f.off + 1 + szS n + n := by rw [← hbd]; simp only [List.length_append, List.length_cons, List.length_nil, varL_length, HN.out]
    have hz : Rw W9 (w.heap.size + 1) (3 + szS f.sess + szS f.seq + 1 + szS f.off + 1 + szS n + n) v9 (bodyS f) := by rw [← hbd]; simpa only [List.append_assoc, List.cons_append, List.nil_append] using ho9
    obtain ⟨A9, c9, rfl, hle9, hrd9⟩ := Rd.own (l := bodyS f) (enc := B8) hz
    clear hz
    have HBN := Lib.hid hbn
    clear hbd hbn ho9
    go_wp2_with fail
    refine (rseal_calls A9 (bodyS f) _ c9 _ _ HBN.out (by omega) hrd9).mono ?_
    rintro r X ⟨A', c', rfl, hc', hrd', hb'⟩
    have HX := Lib.hid (HB9.out.trans (hb'.mono (by omega)))
    have HLen : Hid (3 + szS f.sess + szS f.seq + 1 + szS f.off + 1 + szS n + n + 2 = (encS f).length) := by show _ = _; simp only [encS, sealB, List.length_append, List.length_cons, List.length_nil, HBN.out]
    rw [HLen.out] at hc' ⊢
    clear hb' hrd9
    go_wp2
    go_ret2
    exact ⟨A', c', rfl, hc', hrd'.weaken (fun b hb => by omega), HX.out⟩
/-- The reference's Encode. -/
theorem rencode_calls (f : Fr) (A : Option Addr) (n c : Nat) (hn : f.data.length = n) (w : World) (hs : Small f) (hr : checkE f = 0 → ∃ S, Rd B8 w S A f.data) :
    Calls Try.prog 17 #[.agg #[.int .u8 (f.kind.toNat : Int), .int .u8 (f.frm.toNat : Int), .int .u8 (f.too.toNat : Int), .int .u32 (f.sess : Int), .int .u32 (f.seq : Int), .int .u8 (f.part.toNat : Int), .int .u32 (f.off : Int), .bool f.last, .slice A n c]] w fun r w' => ∃ A' c', r = .returned (.tuple #[.slice A' (encF f).1.length c', .int .i64 ((encF f).2 : Int)]) ∧ (encF f).1.length ≤ c' ∧ Rd B8 w' (fun b => w.heap.size ≤ b) A' (encF f).1 ∧ Below w.heap.size w w' := by
  by_cases he : checkE f = 0
  · rw [encF_good he]
    obtain ⟨S, hr⟩ := hr he
    exact rencode_good f A n c hn w he hs.sess hs.seq hs.off (hr.inside.weaken fun b hb => hb.2)
  · rw [encF_bad he]
    refine (rencode_bad f A n c hn w he).mono ?_
    rintro r w' ⟨rfl, hb⟩
    exact ⟨none, 0, rfl, Nat.le_refl _, Rd.nil, hb⟩
end Go.Proofs.Ytogdbccfkbbcaaa
