/- The walks: the text of a name; a name, written. -/
import Derived.Test.YtogdbccfkbbcaaaNameW
import Derived.Laws.IdiomStrings
import Derived.Lib.ConvBytes
namespace Go.Proofs.Ytogdbccfkbbcaaa
open Go.RowKit
set_option linter.unusedSimpArgs false
theorem conv_bytes (w : World) (g k c : Nat) (l : List UInt8) (S : Nat → Prop) (hl : l.length = k) (hr : Rd B8 w S (some ⟨g, 0, none⟩) l) :
    (convert 36 9 (.slice (some ⟨g, 0, none⟩) k c)).run Try.prog w = .ok (.string (strOfNums (nums l))) w := by
  refine run_convert_bytes_arg w 36 5 Try.underlying36 Try.underlying5 g 0 k c (nums l) (by rw [nums_length]; exact hl) (fun i hi => ?_) 9 Try.underlying9
  obtain ⟨b, o, e, _, hc⟩ := hr (by omega)
  injection e with e
  injection e with e1 e2
  subst e1; subst e2
  rw [hc i (by omega)]
  unfold B8 nums
  simp [List.getD, show i < l.length by omega]
set_option maxRecDepth 100000 in
theorem text_calls (nm : Nm) (w : World) : Calls Try.prog 106 #[.agg #[.int .u8 (nm.b0.toNat : Int), .int .u8 (nm.b1.toNat : Int), .int .u8 (nm.b2.toNat : Int), .int .u8 (nm.b3.toNat : Int), .int .u8 (nm.b4.toNat : Int), .int .u8 (nm.b5.toNat : Int), .int .u8 (nm.b6.toNat : Int), .int .u8 (nm.b7.toNat : Int)]] w fun r w' => (∃ s : ByteArray, s.size ≤ 8 ∧ r = .returned (.string s)) ∧ Below w.heap.size w w' := by
  have hb0 := Blk.new w 24 #[.int .u8 (nm.b0.toNat : Int), .int .u8 (nm.b1.toNat : Int), .int .u8 (nm.b2.toNat : Int), .int .u8 (nm.b3.toNat : Int), .int .u8 (nm.b4.toNat : Int), .int .u8 (nm.b5.toNat : Int), .int .u8 (nm.b6.toNat : Int), .int .u8 (nm.b7.toNat : Int)]
  have HB : Hid (Below w.heap.size w (w.alloc (.cells #[.int .u8 (nm.b0.toNat : Int), .int .u8 (nm.b1.toNat : Int), .int .u8 (nm.b2.toNat : Int), .int .u8 (nm.b3.toNat : Int), .int .u8 (nm.b4.toNat : Int), .int .u8 (nm.b5.toNat : Int), .int .u8 (nm.b6.toNat : Int), .int .u8 (nm.b7.toNat : Int)] 24))) := (Below.refl _ _).alloc (Nat.le_refl _) _
  have hs0 : w.heap.size < (w.alloc (.cells #[.int .u8 (nm.b0.toNat : Int), .int .u8 (nm.b1.toNat : Int), .int .u8 (nm.b2.toNat : Int), .int .u8 (nm.b3.toNat : Int), .int .u8 (nm.b4.toNat : Int), .int .u8 (nm.b5.toNat : Int), .int .u8 (nm.b6.toNat : Int), .int .u8 (nm.b7.toNat : Int)] 24)).heap.size := by simp
  go_enter Try.func106, Try.ntmps106
  go_wp2_with fail
  generalize w.alloc (.cells #[.int .u8 (nm.b0.toNat : Int), .int .u8 (nm.b1.toNat : Int), .int .u8 (nm.b2.toNat : Int), .int .u8 (nm.b3.toNat : Int), .int .u8 (nm.b4.toNat : Int), .int .u8 (nm.b5.toNat : Int), .int .u8 (nm.b6.toNat : Int), .int .u8 (nm.b7.toNat : Int)] 24) = W at hb0 HB hs0 ⊢
  refine (nsize_calls nm W).mono ?_
  rintro r W1 ⟨⟨k, hk, rfl⟩, hb⟩
  have hb1 := hb0.below hb hs0
  have HB1 := Lib.hid (HB.out.trans (hb.mono (by omega)))
  have hlk : ((nmL nm).take k).length = k := by rw [List.length_take, nmL_length]; omega
  have hconv := conv_bytes W1 w.heap.size k 8 ((nmL nm).take k) _ hlk ((nm_rd nm hb1 0).take k)
  have hsz : (strOfNums (nums ((nmL nm).take k))).size ≤ 8 := by rw [strOfNums_size, nums_length, hlk]; exact hk
  clear hb hb0 HB hb1 hlk
  generalize strOfNums (nums ((nmL nm).take k)) = s at hconv hsz
  have i1 : (k : Int) ≤ 8 := by omega
  have i2 : (0 : Int) ≤ (k : Int) := by omega
  have HS := Lib.hid hsz
  clear hsz
  go_wp2
  go_ret
  exact ⟨⟨s, HS.out, rfl⟩, HB1.out⟩
theorem below_bytesWorld (w : World) (e : TypeId) (s : ByteArray) : Below w.heap.size w (Lib.bytesWorld w e s) :=
  ⟨rfl, rfl, rfl, by rw [Lib.bytesWorld_size]; omega, fun k hk => Lib.bytesWorld_at_old w e s k hk⟩
set_option maxRecDepth 100000 in
theorem wname_calls (base p : Nat) (l : List UInt8) (nm : Nm) (w : World) (hb : l.length ≤ 1000000) (hw : Wr w base p l) :
    Calls Try.prog 85 #[.pointer (some ⟨p, 0, none⟩), .agg #[.int .u8 (nm.b0.toNat : Int), .int .u8 (nm.b1.toNat : Int), .int .u8 (nm.b2.toNat : Int), .int .u8 (nm.b3.toNat : Int), .int .u8 (nm.b4.toNat : Int), .int .u8 (nm.b5.toNat : Int), .int .u8 (nm.b6.toNat : Int), .int .u8 (nm.b7.toNat : Int)]] w fun e w' => e = .returned (.tuple #[]) ∧ (∃ l', l'.length ≤ 9 ∧ Wr w' base p (l ++ l')) ∧ BelowX base p w w' := by
  have hp : base ≤ w.heap.size := by obtain ⟨v, _, _, h, _⟩ := hw; exact h
  have HB : Hid (Below w.heap.size w (w.alloc (.cells #[.int .u8 (nm.b0.toNat : Int), .int .u8 (nm.b1.toNat : Int), .int .u8 (nm.b2.toNat : Int), .int .u8 (nm.b3.toNat : Int), .int .u8 (nm.b4.toNat : Int), .int .u8 (nm.b5.toNat : Int), .int .u8 (nm.b6.toNat : Int), .int .u8 (nm.b7.toNat : Int)] 24))) := (Below.refl _ _).alloc (Nat.le_refl _) _
  have hs0 : w.heap.size < (w.alloc (.cells #[.int .u8 (nm.b0.toNat : Int), .int .u8 (nm.b1.toNat : Int), .int .u8 (nm.b2.toNat : Int), .int .u8 (nm.b3.toNat : Int), .int .u8 (nm.b4.toNat : Int), .int .u8 (nm.b5.toNat : Int), .int .u8 (nm.b6.toNat : Int), .int .u8 (nm.b7.toNat : Int)] 24)).heap.size := by simp
  have hw0 := Lib.hid (hw.below HB.out)
  have hconv : ∀ (s : ByteArray) (W : World), (convert 9 36 (.string s)).run Try.prog W = .ok (.slice (some ⟨W.heap.size, 0, none⟩) s.size (grownCap W s.size 0 5)) (Lib.bytesWorld W 5 s) := fun s W =>
    Lib.run_convert_string_bytes W 9 36 5 s Try.underlying9 Try.underlying36 Try.underlying5
  clear hw
  go_enter Try.func85, Try.ntmps85
  go_wp2_with fail
  generalize w.alloc (.cells #[.int .u8 (nm.b0.toNat : Int), .int .u8 (nm.b1.toNat : Int), .int .u8 (nm.b2.toNat : Int), .int .u8 (nm.b3.toNat : Int), .int .u8 (nm.b4.toNat : Int), .int .u8 (nm.b5.toNat : Int), .int .u8 (nm.b6.toNat : Int), .int .u8 (nm.b7.toNat : Int)] 24) = W at hw0 HB hs0 ⊢
  refine (text_calls nm W).mono ?_
  rintro r W1 ⟨⟨s, hs, rfl⟩, hb1⟩
  have hw1 := Lib.hid (hw0.out.below hb1)
  have HB1 := Lib.hid (HB.out.trans (hb1.mono (by omega)))
  have hs1 := hb1.size
  clear hb1 hw0 HB
  have wv : IntKind.u8.wrap (s.size : Int) = (s.size : Int) := wrap_u8_nat _ (by omega)
  go_wp2_with fail
  have hput := put_calls base p l [UInt8.ofNat s.size] (some ⟨W1.heap.size, 0, none⟩) 1 1 (fun _ => True) (W1.alloc (.cells #[.int .u8 (s.size : Int)] 5)) rfl (by omega) (hw1.out.below ((Below.refl _ _).alloc (Nat.le_refl _) _)) (Rd.blk (t := 5) (by
    have e : B8 (UInt8.ofNat s.size) = .int .u8 (s.size : Int) := by unfold B8; rw [UInt8.toNat_ofNat', Nat.mod_eq_of_lt (by omega)]
    simp only [List.map_cons, List.map_nil, e]
    exact Blk.new _ _ _) trivial)
  refine hput.mono ?_
  rintro r W2 ⟨rfl, hw2, hx2⟩
  have HX2 := Lib.hid ((BelowX.of (p := p) ((HB1.out.alloc (by omega) (.cells #[.int .u8 (s.size : Int)] 5)).mono hp)).trans hx2)
  have HW2 := Lib.hid hw2
  clear hput hw2 hx2 hw1 HB1
  go_wp2_with fail
  have hbw := below_bytesWorld W2 5 s
  have hp2 : base ≤ W2.heap.size := by obtain ⟨v, _, _, h, _⟩ := HW2.out; exact h
  have hrd : Rd B8 (Lib.bytesWorld W2 5 s) (fun _ => True) (some ⟨W2.heap.size, 0, none⟩) s.data.toList := fun hl => ⟨_, _, rfl, trivial, fun j hj => by
    have hj2 : j < s.data.size := by rw [← Array.length_toList]; exact hj
    rw [Nat.zero_add, Lib.bytesWorld_cell W2 5 s j hj2]
    unfold B8
    simp [List.getD]
    rw [Array.getElem?_eq_getElem hj2]
    rfl⟩
  have hz : s.data.toList.length = s.size := by rw [Array.length_toList]; rfl
  refine (put_calls base p (l ++ [UInt8.ofNat s.size]) s.data.toList (some ⟨W2.heap.size, 0, none⟩) s.size _ _ _ hz (by rw [List.length_append]; simp only [List.length_cons, List.length_nil]; omega) (HW2.out.below hbw) hrd).mono ?_
  rintro r W3 ⟨rfl, hw3, hx3⟩
  have HX3 := Lib.hid (HX2.out.trans ((BelowX.of (p := p) (hbw.mono hp2)).trans hx3))
  have HW3 : Hid (Wr W3 base p (l ++ (UInt8.ofNat s.size :: s.data.toList))) := by show Wr _ _ _ _; rw [List.append_assoc] at hw3; exact hw3
  have HL : Hid ((UInt8.ofNat s.size :: s.data.toList).length ≤ 9) := by show _ ≤ _; rw [List.length_cons, hz]; omega
  clear hz hbw hrd hw3 hx3 HW2 HX2
  go_wp2
  go_end0
  exact ⟨rfl, ⟨_, HL.out, HW3.out⟩, HX3.out⟩
end Go.Proofs.Ytogdbccfkbbcaaa
