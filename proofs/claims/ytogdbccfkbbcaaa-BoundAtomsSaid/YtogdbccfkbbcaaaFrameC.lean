/- The walks of package frame: Check. -/
import Derived.Test.YtogdbccfkbbcaaaFirstW
namespace Go.Proofs.Ytogdbccfkbbcaaa
open Go.RowKit
/-- A frame, as data. -/
structure Fr where
  kind : UInt8
  frm : UInt8
  too : UInt8
  sess : Nat
  seq : Nat
  part : UInt8
  off : Nat
  last : Bool
  data : List UInt8
def kindB (f : Fr) : Bool := decide (1 ≤ f.kind.toNat) && decide (f.kind.toNat ≤ 3)
def endsB (f : Fr) : Bool := decide (f.frm.toNat < 16) && (decide (f.too.toNat < 16) && decide (f.frm.toNat ≠ f.too.toNat))
def sizeB (f : Fr) : Bool := decide (f.data.length ≤ 65536)
/-- The error of Check. -/
def checkE (f : Fr) : Nat := firstE [if kindB f then 0 else 14, if endsB f then 0 else 1, if sizeB f then 0 else 15]
theorem check1_calls (f : Fr) (A : Option Addr) (c g : Nat) (w : World) (hb : Blk w g 38 #[.int .u8 (f.kind.toNat : Int), .int .u8 (f.frm.toNat : Int), .int .u8 (f.too.toNat : Int), .int .u32 (f.sess : Int), .int .u32 (f.seq : Int), .int .u8 (f.part.toNat : Int), .int .u32 (f.off : Int), .bool f.last, .slice A f.data.length c]) :
    Calls Try.prog 50 #[.pointer (some ⟨g, 0, none⟩)] w fun r w' => r = .returned (.bool (kindB f)) ∧ w = w' := by
  have h0 := hb.cell 0
  simp at h0
  go_enter Try.func50, Try.ntmps50
  go_wp2
  all_goals go_ret
  all_goals refine ⟨?_, rfl⟩
  all_goals show Ending.returned (.bool _) = _
  all_goals congr 2
  all_goals (unfold kindB; rw [Bool.eq_iff_iff]; simp; try omega)
theorem check2_calls (f : Fr) (A : Option Addr) (c g : Nat) (w : World) (hb : Blk w g 38 #[.int .u8 (f.kind.toNat : Int), .int .u8 (f.frm.toNat : Int), .int .u8 (f.too.toNat : Int), .int .u32 (f.sess : Int), .int .u32 (f.seq : Int), .int .u8 (f.part.toNat : Int), .int .u32 (f.off : Int), .bool f.last, .slice A f.data.length c]) :
    Calls Try.prog 51 #[.pointer (some ⟨g, 0, none⟩)] w fun r w' => r = .returned (.bool (endsB f)) ∧ w = w' := by
  have h1 := hb.cell 1
  have h2 := hb.cell 2
  simp at h1 h2
  go_enter Try.func51, Try.ntmps51
  go_wp2
  all_goals go_ret
  all_goals refine ⟨?_, rfl⟩
  all_goals show Ending.returned (.bool _) = _
  all_goals congr 2
  all_goals (unfold endsB; rw [Bool.eq_iff_iff]; simp; try omega)
theorem check3_calls (f : Fr) (A : Option Addr) (c g : Nat) (w : World) (hb : Blk w g 38 #[.int .u8 (f.kind.toNat : Int), .int .u8 (f.frm.toNat : Int), .int .u8 (f.too.toNat : Int), .int .u32 (f.sess : Int), .int .u32 (f.seq : Int), .int .u8 (f.part.toNat : Int), .int .u32 (f.off : Int), .bool f.last, .slice A f.data.length c]) :
    Calls Try.prog 52 #[.pointer (some ⟨g, 0, none⟩)] w fun r w' => r = .returned (.bool (sizeB f)) ∧ w = w' := by
  have h8 := hb.cell 8
  simp at h8
  go_enter Try.func52, Try.ntmps52
  go_wp2
  go_ret
  refine ⟨?_, rfl⟩
  show Ending.returned (.bool _) = _
  congr 2
  unfold sizeB
  rw [Bool.eq_iff_iff]; simp; omega
set_option maxRecDepth 100000 in
theorem check_calls (f : Fr) (A : Option Addr) (n c : Nat) (hn : f.data.length = n) (w : World) :
    Calls Try.prog 18 #[.agg #[.int .u8 (f.kind.toNat : Int), .int .u8 (f.frm.toNat : Int), .int .u8 (f.too.toNat : Int), .int .u32 (f.sess : Int), .int .u32 (f.seq : Int), .int .u8 (f.part.toNat : Int), .int .u32 (f.off : Int), .bool f.last, .slice A n c]] w fun r w' => r = .returned (.int .i64 (checkE f : Int)) ∧ Below w.heap.size w w' := by
  subst hn
  have hmf : ∀ (fn : Fn) (first cap : Array Value) (w : World), (Instr.makeFunc fn first cap).run Try.prog w = .ok (.func fn first cap) w := fun _ _ _ _ => rfl
  go_enter Try.func18, Try.ntmps18
  go_wp2_with fail
  have hb0 := Blk.new w 38 #[.int .u8 (f.kind.toNat : Int), .int .u8 (f.frm.toNat : Int), .int .u8 (f.too.toNat : Int), .int .u32 (f.sess : Int), .int .u32 (f.seq : Int), .int .u8 (f.part.toNat : Int), .int .u32 (f.off : Int), .bool f.last, .slice A f.data.length c]
  have hs0 : (w.alloc (.cells #[.int .u8 (f.kind.toNat : Int), .int .u8 (f.frm.toNat : Int), .int .u8 (f.too.toNat : Int), .int .u32 (f.sess : Int), .int .u32 (f.seq : Int), .int .u8 (f.part.toNat : Int), .int .u32 (f.off : Int), .bool f.last, .slice A f.data.length c] 38)).heap.size = w.heap.size + 1 := World.size_alloc _ _
  have hB0 : Below w.heap.size w (w.alloc (.cells #[.int .u8 (f.kind.toNat : Int), .int .u8 (f.frm.toNat : Int), .int .u8 (f.too.toNat : Int), .int .u32 (f.sess : Int), .int .u32 (f.seq : Int), .int .u8 (f.part.toNat : Int), .int .u32 (f.off : Int), .bool f.last, .slice A f.data.length c] 38)) := (Below.refl _ _).alloc (Nat.le_refl _) _
  obtain ⟨W0, hW0⟩ : ∃ W0, w.alloc (.cells #[.int .u8 (f.kind.toNat : Int), .int .u8 (f.frm.toNat : Int), .int .u8 (f.too.toNat : Int), .int .u32 (f.sess : Int), .int .u32 (f.seq : Int), .int .u8 (f.part.toNat : Int), .int .u32 (f.off : Int), .bool f.last, .slice A f.data.length c] 38) = W0 := ⟨_, rfl⟩
  rw [hW0] at hb0 hs0 hB0 ⊢
  clear hW0
  refine (unless_calls 50 #[] #[.pointer (some ⟨w.heap.size, 0, none⟩)] 14 W0).mono ?_
  rintro r W1 ⟨rfl, hz1, hp1, hq1, hB1⟩
  rw [hs0] at hp1 hq1 hB1 hz1
  have hb1 := hb0.below hB1 (by omega)
  have hs1 : W1.heap.size = w.heap.size + 3 := by omega
  have hB01 := Lib.hid (hB0.trans (hB1.mono (by omega)))
  clear hB0 hB1 hb0 hz1
  go_wp2_with fail
  refine (unless_calls 51 #[] #[.pointer (some ⟨w.heap.size, 0, none⟩)] 1 W1).mono ?_
  rintro r W2 ⟨rfl, hz2, hp2, hq2, hB2⟩
  rw [hs1] at hp2 hq2 hB2 hz2
  have hb2 := hb1.below hB2 (by omega)
  have hp1 := hp1.below hB2 (by omega)
  have hq1 := hq1.below hB2 (by omega)
  have hs2 : W2.heap.size = w.heap.size + 5 := by omega
  have hB02 := Lib.hid (hB01.out.trans (hB2.mono (by omega)))
  clear hB01 hB2 hb1 hz2
  go_wp2_with fail
  refine (unless_calls 52 #[] #[.pointer (some ⟨w.heap.size, 0, none⟩)] 15 W2).mono ?_
  rintro r W3 ⟨rfl, hz3, hp3, hq3, hB3⟩
  rw [hs2] at hp3 hq3 hB3 hz3
  have hb3 := hb2.below hB3 (by omega)
  have hp1 := hp1.below hB3 (by omega)
  have hq1 := hq1.below hB3 (by omega)
  have hp2 := hp2.below hB3 (by omega)
  have hq2 := hq2.below hB3 (by omega)
  have hs3 : W3.heap.size = w.heap.size + 7 := by omega
  have hB03 := Lib.hid (hB02.out.trans (hB3.mono (by omega)))
  clear hB02 hB3 hb2 hz3
  go_wp2_with fail
  have hs4 : (W3.alloc (.cells #[.func (.func 74) #[] #[.pointer (some ⟨w.heap.size + 1, 0, none⟩), .pointer (some ⟨w.heap.size + 1 + 1, 0, none⟩)], .func (.func 74) #[] #[.pointer (some ⟨w.heap.size + 3, 0, none⟩), .pointer (some ⟨w.heap.size + 3 + 1, 0, none⟩)], .func (.func 74) #[] #[.pointer (some ⟨w.heap.size + 5, 0, none⟩), .pointer (some ⟨w.heap.size + 5 + 1, 0, none⟩)]] 65)).heap.size = w.heap.size + 8 := by rw [World.size_alloc, hs3]
  have hB4 := Lib.hid (hB03.out.alloc (by omega) (.cells #[.func (.func 74) #[] #[.pointer (some ⟨w.heap.size + 1, 0, none⟩), .pointer (some ⟨w.heap.size + 1 + 1, 0, none⟩)], .func (.func 74) #[] #[.pointer (some ⟨w.heap.size + 3, 0, none⟩), .pointer (some ⟨w.heap.size + 3 + 1, 0, none⟩)], .func (.func 74) #[] #[.pointer (some ⟨w.heap.size + 5, 0, none⟩), .pointer (some ⟨w.heap.size + 5 + 1, 0, none⟩)]] 65))
  have hn4 := Blk.new W3 65 #[.func (.func 74) #[] #[.pointer (some ⟨w.heap.size + 1, 0, none⟩), .pointer (some ⟨w.heap.size + 1 + 1, 0, none⟩)], .func (.func 74) #[] #[.pointer (some ⟨w.heap.size + 3, 0, none⟩), .pointer (some ⟨w.heap.size + 3 + 1, 0, none⟩)], .func (.func 74) #[] #[.pointer (some ⟨w.heap.size + 5, 0, none⟩), .pointer (some ⟨w.heap.size + 5 + 1, 0, none⟩)]]
  rw [hs3] at hn4
  have hk4 : Below W3.heap.size W3 (W3.alloc (.cells #[.func (.func 74) #[] #[.pointer (some ⟨w.heap.size + 1, 0, none⟩), .pointer (some ⟨w.heap.size + 1 + 1, 0, none⟩)], .func (.func 74) #[] #[.pointer (some ⟨w.heap.size + 3, 0, none⟩), .pointer (some ⟨w.heap.size + 3 + 1, 0, none⟩)], .func (.func 74) #[] #[.pointer (some ⟨w.heap.size + 5, 0, none⟩), .pointer (some ⟨w.heap.size + 5 + 1, 0, none⟩)]] 65)) := (Below.refl _ _).alloc (Nat.le_refl _) _
  generalize W3.alloc (.cells #[.func (.func 74) #[] #[.pointer (some ⟨w.heap.size + 1, 0, none⟩), .pointer (some ⟨w.heap.size + 1 + 1, 0, none⟩)], .func (.func 74) #[] #[.pointer (some ⟨w.heap.size + 3, 0, none⟩), .pointer (some ⟨w.heap.size + 3 + 1, 0, none⟩)], .func (.func 74) #[] #[.pointer (some ⟨w.heap.size + 5, 0, none⟩), .pointer (some ⟨w.heap.size + 5 + 1, 0, none⟩)]] 65) = W4 at hs4 hB4 hn4 hk4 ⊢
  have hb4 : Blk W4 w.heap.size 38 #[.int .u8 (f.kind.toNat : Int), .int .u8 (f.frm.toNat : Int), .int .u8 (f.too.toNat : Int), .int .u32 (f.sess : Int), .int .u32 (f.seq : Int), .int .u8 (f.part.toNat : Int), .int .u32 (f.off : Int), .bool f.last, .slice A f.data.length c] := hb3.below (hk4) (by omega)
  have hp1 := hp1.below hk4 (by omega)
  have hq1 := hq1.below hk4 (by omega)
  have hp2 := hp2.below hk4 (by omega)
  have hq2 := hq2.below hk4 (by omega)
  have hp3 := hp3.below hk4 (by omega)
  have hq3 := hq3.below hk4 (by omega)
  have hF := first_calls [if kindB f then 0 else 14, if endsB f then 0 else 1, if sizeB f then 0 else 15] 3 rfl (by omega) (w.heap.size + 7) (fun _ => 74) (fun _ => #[])
    (fun i => if i = 0 then #[.pointer (some ⟨w.heap.size + 1, 0, none⟩), .pointer (some ⟨w.heap.size + 1 + 1, 0, none⟩)] else if i = 1 then #[.pointer (some ⟨w.heap.size + 3, 0, none⟩), .pointer (some ⟨w.heap.size + 3 + 1, 0, none⟩)] else #[.pointer (some ⟨w.heap.size + 5, 0, none⟩), .pointer (some ⟨w.heap.size + 5 + 1, 0, none⟩)])
    (fun W => W = W4) W4 (fun _ _ args W => runCallFunc Try.func74 (by kernel_rfl) (by kernel_rfl) args W)
    (by
      rintro i hi W rfl
      have h := hn4.cell i
      rw [h]
      match i, hi with
      | 0, _ => rfl
      | 1, _ => rfl
      | 2, _ => rfl)
    (by
      rintro i e he W rfl
      match i, he with
      | 0, he =>
        simp only [List.getElem?_cons_zero, Option.some.injEq] at he
        subst he
        exact (unless1_calls 50 #[] #[.pointer (some ⟨w.heap.size, 0, none⟩)] 14 _ _ (kindB f) _ (by rw [hp1.cell]; rfl) (by rw [hq1.cell]; rfl) (fun args W => runCallFunc Try.func50 (by kernel_rfl) (by kernel_rfl) args W) (check1_calls f A c _ _ hb4)).mono fun r W' h => ⟨h.1, h.2.symm⟩
      | 1, he =>
        simp only [List.getElem?_cons_zero, List.getElem?_cons_succ, Option.some.injEq] at he
        subst he
        exact (unless1_calls 51 #[] #[.pointer (some ⟨w.heap.size, 0, none⟩)] 1 _ _ (endsB f) _ (by rw [hp2.cell]; rfl) (by rw [hq2.cell]; rfl) (fun args W => runCallFunc Try.func51 (by kernel_rfl) (by kernel_rfl) args W) (check2_calls f A c _ _ hb4)).mono fun r W' h => ⟨h.1, h.2.symm⟩
      | 2, he =>
        simp only [List.getElem?_cons_zero, List.getElem?_cons_succ, Option.some.injEq] at he
        subst he
        exact (unless1_calls 52 #[] #[.pointer (some ⟨w.heap.size, 0, none⟩)] 15 _ _ (sizeB f) _ (by rw [hp3.cell]; rfl) (by rw [hq3.cell]; rfl) (fun args W => runCallFunc Try.func52 (by kernel_rfl) (by kernel_rfl) args W) (check3_calls f A c _ _ hb4)).mono fun r W' h => ⟨h.1, h.2.symm⟩
      | k + 3, he => simp at he)
    rfl
  have hF2 : Calls Try.prog 33 #[.slice (some ⟨w.heap.size + 7, 0, none⟩) 3 3] W4 fun r W' => r = .returned (.int .i64 (checkE f : Int)) ∧ W' = W4 := hF
  have HF := Lib.hid hF2
  clear hF2
  clear hF hp1 hq1 hp2 hq2 hp3 hq3 hb4 hk4 hn4
  refine HF.out.mono ?_
  rintro r W5 ⟨rfl, rfl⟩
  go_wp2
  go_ret
  exact ⟨rfl, hB4.out⟩
end Go.Proofs.Ytogdbccfkbbcaaa
