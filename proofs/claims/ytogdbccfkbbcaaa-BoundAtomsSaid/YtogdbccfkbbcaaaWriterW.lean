/- The walks of package wire: the writer. -/
import Derived.Test.YtogdbccfkbbcaaaVarW
import Derived.Test.YtogdbccfkbbcaaaMem2
namespace Go.Proofs.Ytogdbccfkbbcaaa
open Go.RowKit
/-- Below block number B all blocks but p are as they were. -/
structure BelowX (B p : Nat) (w w' : World) : Prop where
  os : w'.os = w.os
  tape : w'.tape = w.tape
  output : w'.output = w.output
  size : w.heap.size ≤ w'.heap.size
  block : ∀ k, k < B → k ≠ p → w'.heap[k]? = w.heap[k]?
theorem BelowX.of {B p : Nat} {w w' : World} (h : Below B w w') : BelowX B p w w' := ⟨h.os, h.tape, h.output, h.size, fun k hk _ => h.block k hk⟩
theorem BelowX.trans {B p : Nat} {a b c : World} (h : BelowX B p a b) (k : BelowX B p b c) : BelowX B p a c :=
  ⟨k.os.trans h.os, k.tape.trans h.tape, k.output.trans h.output, Nat.le_trans h.size k.size, fun i hi hp => (k.block i hi hp).trans (h.block i hi hp)⟩
theorem BelowX.below {B B' p : Nat} {w w' : World} (h : BelowX B p w w') (h1 : B' ≤ B) (h2 : B' ≤ p) : Below B' w w' := ⟨h.os, h.tape, h.output, h.size, fun k hk => h.block k (by omega) (by omega)⟩
theorem BelowX.blk {B p : Nat} {w w' : World} (h : BelowX B p w w') {g : Nat} {t : TypeId} {cs : Array Value} (hb : Blk w g t cs) (h1 : g < B) (h2 : g ≠ p) : Blk w' g t cs := (h.block g h1 h2).trans hb
theorem BelowX.rd {α : Type} {enc : α → Value} {B p : Nat} {w w' : World} {S : Nat → Prop} {A : Option Addr} {l : List α} (h : BelowX B p w w') (hr : Rd enc w S A l) (hS : ∀ b, S b → b < B ∧ b ≠ p) : Rd enc w' S A l :=
  hr.keep fun b hs => h.block b (hS b hs).1 (hS b hs).2
theorem BelowX.setCell {B p : Nat} {a w : World} (h : BelowX B p a w) (i : Nat) (u : Value) : BelowX B p a (w.setCell ⟨p, i, none⟩ u) :=
  h.trans ⟨rfl, rfl, rfl, by simp [World.setCell], fun k _ hp => Below.heap_setCell _ _ _ _ hp⟩
/-- A writer at block p that has written l; its row lies from base on. -/
def Wr (w : World) (base p : Nat) (l : List UInt8) : Prop :=
  ∃ v, Blk w p 113 #[v] ∧ p < base ∧ base ≤ w.heap.size ∧ w.ownsRow base 5 1 v l.length (l.map B8)
/-- A writer that has written nothing: its row will lie wherever one likes. -/
theorem Wr.start {w : World} {p base : Nat} (h : Blk w p 113 #[.slice none 0 0]) (h1 : p < base) (h2 : base ≤ w.heap.size) : Wr w base p [] := ⟨_, h, h1, h2, World.ownsRow_nil _ _ _ _⟩
theorem Wr.below {w w' : World} {base p : Nat} {l : List UInt8} (h : Wr w base p l) (hb : Below w.heap.size w w') : Wr w' base p l := by
  obtain ⟨v, hb1, hp, hz, ho⟩ := h
  refine ⟨v, hb1.below hb hb1.lt, hp, Nat.le_trans hz hb.size, ?_⟩
  exact ho.kept (row := none) ⟨hb.os, hb.tape, hb.output, hb.size, fun k hk _ => hb.block k hk⟩ (by cases h : v.ownBlock <;> simp)
theorem Wr.lt {w : World} {base p : Nat} {l : List UInt8} (h : Wr w base p l) : p < w.heap.size := by
  obtain ⟨v, hb1, _⟩ := h
  exact hb1.lt
theorem new_calls (w : World) :
    Calls Try.prog 41 #[] w fun e w' => e = .returned (.pointer (some ⟨w.heap.size, 0, none⟩)) ∧ w'.heap.size = w.heap.size + 1 ∧ Blk w' w.heap.size 113 #[.slice none 0 0] ∧ Below w.heap.size w w' := by
  go_enter Try.func41, Try.ntmps41
  go_wp2
  go_ret
  exact ⟨rfl, World.size_alloc _ _, Blk.new _ _ _, (Below.refl _ _).alloc (Nat.le_refl _) _⟩
set_option maxRecDepth 100000 in
theorem put_calls (base p : Nat) (l bs : List UInt8) (A : Option Addr) (n c : Nat) (S : Nat → Prop) (w : World) (hn : bs.length = n) (hb : l.length + n ≤ 140737488351232) (hw : Wr w base p l) (hr : Rd B8 w S A bs) :
    Calls Try.prog 80 #[.pointer (some ⟨p, 0, none⟩), .slice A n c] w fun e w' => e = .returned (.tuple #[]) ∧ Wr w' base p (l ++ bs) ∧ BelowX base p w w' := by
  obtain ⟨i0, hi, hz0, hz1, hz2⟩ := info_parts info5
  obtain ⟨v, hb1, hp, hz, ho⟩ := hw
  have hpl := hb1.lt
  have hc1 := hb1.cell 0
  have hf1 := hb1.frozen 0
  have HN := Lib.hid hn
  clear hn
  simp only [List.getElem?_toArray, List.getElem?_cons_zero] at hc1
  go_enter Try.func80, Try.ntmps80
  go_wp2_with (at_builtin; refine wpList_append_rd _ rfl (.tmp 10) (.tmp 11) 36 rfl (enc := B8) (S := S) base 5 i0 (.int .u8 0) 1 Try.underlying36 hi hz0 hz1 hz2 rfl v l.length (l.map B8) rfl ho A n c bs rfl HN.out hr one8 ?c4 ?c5 ?c6 ?_)
  case c4 => unfold maxLen; omega
  case c5 => omega
  case c6 => omega
  intro v' w2 hown hgr _
  have hne := own_blk_ne ho hb1 (by decide)
  have hb2 := hb1.grown hgr (fun e => hne e.symm)
  have hc2 := hb2.cell 0
  have hf2 := hb2.frozen 0
  simp only [List.getElem?_toArray, List.getElem?_cons_zero] at hc2
  have hB : BelowX base p w w2 := BelowX.of (below_of_grown hgr (by omega) (fun k hk => (ho.lt k hk).1))
  have hz2 := hB.size
  have hne2 := own_blk_ne hown hb2 (by decide)
  have hfin : Wr (w2.setCell ⟨p, 0, none⟩ v') base p (l ++ bs) := by
    refine ⟨v', hb2.set_ 0 v', hp, by simp [World.setCell]; omega, ?_⟩
    rw [List.length_append, HN.out, List.map_append]
    exact hown.kept (grown_setCell w2 ⟨p, 0, none⟩ v') (.inr hne2)
  have HF := Lib.hid hfin
  obtain ⟨A', c', rfl, _, _⟩ := Rd.own (l := l ++ bs) (enc := B8) (by simpa using hown)
  clear hown hgr hc1 hf1 ho hne hne2 hfin
  go_wp2
  go_end0
  exact ⟨rfl, HF.out, hB.setCell 0 _⟩
theorem num_calls (base p : Nat) (l : List UInt8) (x : Nat) (hx : x < 18446744073709551616) (w : World) (hb : l.length + 10 ≤ 140737488351232) (hw : Wr w base p l) :
    Calls Try.prog 43 #[.pointer (some ⟨p, 0, none⟩), .int .u64 (x : Int)] w fun e w' => e = .returned (.tuple #[]) ∧ Wr w' base p (l ++ varL x) ∧ BelowX base p w w' := by
  have hm := szS_rng x
  have hpl := hw.lt
  have hp : base ≤ w.heap.size := by obtain ⟨v, _, _, h, _⟩ := hw; exact h
  go_enter Try.func43, Try.ntmps43
  go_wp2_with fail
  refine (var_calls x hx _).mono ?_
  rintro e w1 ⟨A, rfl, hr, hB⟩
  have HB := Lib.hid hB
  have hw1 := hw.below hB
  clear hB hx
  go_wp2_with fail
  refine (put_calls base p l (varL x) A (szS x) (szS x) _ _ (varL_length x) (by omega) hw1 hr).mono ?_
  rintro e w2 ⟨rfl, hw2, hB2⟩
  have HB2 := Lib.hid hB2
  clear hB2
  go_wp2
  go_end0
  exact ⟨rfl, hw2, (BelowX.of (HB.out.mono (by omega))).trans HB2.out⟩
theorem byte_calls (base p : Nat) (l : List UInt8) (x : UInt8) (w : World) (hb : l.length + 1 ≤ 140737488351232) (hw : Wr w base p l) :
    Calls Try.prog 42 #[.pointer (some ⟨p, 0, none⟩), .int .u8 (x.toNat : Int)] w fun e w' => e = .returned (.tuple #[]) ∧ Wr w' base p (l ++ [x]) ∧ BelowX base p w w' := by
  have hpl := hw.lt
  have hp : base ≤ w.heap.size := by obtain ⟨v, _, _, h, _⟩ := hw; exact h
  go_enter Try.func42, Try.ntmps42
  go_wp2_with fail
  have hB : Below w.heap.size w (w.alloc (.cells #[.int .u8 (x.toNat : Int)] 5)) := (Below.refl _ _).alloc (Nat.le_refl _) _
  refine (put_calls base p l [x] _ 1 1 (fun _ => True) _ rfl (by omega) (hw.below hB) (Rd.blk (t := 5) (Blk.new _ _ _) trivial)).mono ?_
  rintro e w2 ⟨rfl, hw2, hB2⟩
  have HB := Lib.hid hB
  have HB2 := Lib.hid hB2
  clear hB2 hB
  go_wp2
  go_end0
  exact ⟨rfl, hw2, (BelowX.of (HB.out.mono (by omega))).trans HB2.out⟩
theorem bytes_calls (base p : Nat) (l bs : List UInt8) (A : Option Addr) (n c : Nat) (S : Nat → Prop) (w : World) (hn : bs.length = n) (hb : l.length + 10 + n ≤ 140737488351232) (hw : Wr w base p l) (hr : Rd B8 w S A bs) (hS : ∀ b, S b → b < base ∧ b ≠ p) :
    Calls Try.prog 44 #[.pointer (some ⟨p, 0, none⟩), .slice A n c] w fun e w' => e = .returned (.tuple #[]) ∧ Wr w' base p (l ++ varL n ++ bs) ∧ BelowX base p w w' := by
  have hm := szS_rng n
  have HN := Lib.hid hn
  clear hn
  go_enter Try.func44, Try.ntmps44
  go_wp2_with fail
  refine (num_calls base p l n (by omega) _ (by omega) hw).mono ?_
  rintro e w1 ⟨rfl, hw1, hB1⟩
  have HB := Lib.hid hB1
  have hr1 := hB1.rd hr hS
  have HL := Lib.hid (varL_length n)
  clear hB1
  go_wp2_with fail
  refine (put_calls base p _ bs A n c S _ HN.out (by have := HL.out; rw [List.length_append]; omega) hw1 hr1).mono ?_
  rintro e w2 ⟨rfl, hw2, hB2⟩
  have HB2 := Lib.hid hB2
  clear hB2
  go_wp2
  go_end0
  exact ⟨rfl, hw2, HB.out.trans HB2.out⟩
set_option maxRecDepth 100000 in
theorem out_calls (base p : Nat) (l : List UInt8) (w : World) (hb : l.length ≤ 140737488351232) (hw : Wr w base p l) :
    Calls Try.prog 46 #[.pointer (some ⟨p, 0, none⟩)] w fun e w' => ∃ A c, e = .returned (.slice A l.length c) ∧ l.length ≤ c ∧ Rd B8 w' (fun b => w.heap.size ≤ b) A l ∧ Below w.heap.size w w' := by
  obtain ⟨i0, hi, hz0, hz1, hz2⟩ := info_parts info5
  obtain ⟨v, hb1, hp, hz, ho⟩ := hw
  have hpl := hb1.lt
  have hc1 := hb1.cell 0
  simp only [List.getElem?_toArray, List.getElem?_cons_zero] at hc1
  obtain ⟨A, c, rfl, hlc, hr⟩ := Rd.own (l := l) (enc := B8) ho
  have hc1' : (w.alloc (.cells #[] 5)).cell? ⟨p, 0, none⟩ = some (.slice A l.length c) := by rw [World.cell?_alloc_lt _ _ _ hpl]; exact hc1
  go_enter Try.func46, Try.ntmps46
  go_wp2_with (at_builtin; refine wpList_append_rd _ rfl (.tmp 5) (.tmp 9) 36 rfl (enc := B8) (S := fun b => base ≤ b) w.heap.size 5 i0 (.int .u8 0) 1 Try.underlying36 hi hz0 hz1 hz2 rfl _ 0 [] rfl ?c1 A l.length c l rfl rfl ?c3 one8 ?c4 ?c5 ?c6 ?_)
  case c1 => exact owns_empty _ _ _ (Nat.le_refl _)
  case c3 => exact hr.alloc _
  case c4 => unfold maxLen; omega
  case c5 => omega
  case c6 => simp
  intro v' w2 hown hgr _
  obtain ⟨A', c', rfl, hle, hrd⟩ := Rd.own (l := l) (enc := B8) (by simpa using hown)
  have hB : Below w.heap.size w w2 := ((Below.refl _ _).alloc (Nat.le_refl _) _).grown hgr (by simp) (fun k hk => by simp [Value.ownBlock] at hk; omega)
  have HB := Lib.hid hB
  clear hown hgr hB
  go_wp2
  go_ret
  exact ⟨_, _, rfl, by omega, hrd, HB.out⟩
end Go.Proofs.Ytogdbccfkbbcaaa
