/- The reference's Decode, one contract. -/
import Derived.Test.YtogdbccfkbbcaaaRefD
import Derived.Test.YtogdbccfkbbcaaaFrameG
namespace Go.Proofs.Ytogdbccfkbbcaaa
open Go.RowKit
set_option linter.unusedSimpArgs false
set_option maxRecDepth 100000 in
theorem rdecode_not (A : Option Addr) (n c : Nat) (e : Nat) (w : World) (he : e ≠ 0)
    (H : ∀ W : World, W.heap[w.heap.size]? = some (.cells #[.int .u8 0, .int .u8 0, .int .u8 0, .int .u32 0, .int .u32 0, .int .u8 0, .int .u32 0, .bool false, .slice none 0 0] 38 (0, 0)) → W = w.alloc (.cells #[.int .u8 0, .int .u8 0, .int .u8 0, .int .u32 0, .int .u32 0, .int .u8 0, .int .u32 0, .bool false, .slice none 0 0] 38) → Calls Try.prog 39 #[.slice A n c] W fun r w' => r = .returned (.tuple #[.slice none 0 0, .int .i64 (e : Int)]) ∧ W = w') :
    Calls Try.prog 12 #[.slice A n c] w fun r w' => r = .returned (.tuple #[.agg #[.int .u8 (Fr0.kind.toNat : Int), .int .u8 (Fr0.frm.toNat : Int), .int .u8 (Fr0.too.toNat : Int), .int .u32 (Fr0.sess : Int), .int .u32 (Fr0.seq : Int), .int .u8 (Fr0.part.toNat : Int), .int .u32 (Fr0.off : Int), .bool Fr0.last, .slice none 0 0], .int .i64 (e : Int)]) ∧ Below w.heap.size w w' := by
  have hb0 := Blk.new w 38 #[.int .u8 0, .int .u8 0, .int .u8 0, .int .u32 0, .int .u32 0, .int .u8 0, .int .u32 0, .bool false, .slice none 0 0]
  have ht : ((e : Int) != 0) = true := by simp; omega
  have HH := Lib.hid (H _ hb0 rfl)
  clear H he
  go_enter Try.func12, Try.ntmps12
  go_wp2_with fail
  refine HH.out.mono ?_
  rintro r w1 ⟨rfl, rfl⟩
  go_wp2
  exact bodyPost_ret (results_frame rfl _ _ w.heap.size _ _ rfl rfl hb0 rfl) rfl ⟨rfl, (Below.refl _ _).alloc (Nat.le_refl _) _⟩
theorem rdecode_calls (A : Option Addr) (l : List UInt8) (n c : Nat) (S : Nat → Prop) (w : World) (hn : l.length = n) (hc : n ≤ c) (hl : n ≤ 1000000) (hr : Rd B8 w S A l) :
    Calls Try.prog 12 #[.slice A n c] w fun r w' => ∃ A' c', r = .returned (.tuple #[.agg #[.int .u8 ((decF l).1.kind.toNat : Int), .int .u8 ((decF l).1.frm.toNat : Int), .int .u8 ((decF l).1.too.toNat : Int), .int .u32 ((decF l).1.sess : Int), .int .u32 ((decF l).1.seq : Int), .int .u8 ((decF l).1.part.toNat : Int), .int .u32 ((decF l).1.off : Int), .bool (decF l).1.last, .slice A' (decF l).1.data.length c'], .int .i64 ((decF l).2 : Int)]) ∧ (decF l).1.data.length ≤ c' ∧ Rd B8 w' (fun _ => True) A' (decF l).1.data ∧ Below w.heap.size w w' := by
  by_cases h2 : n < 2
  · have hd : decF l = (Fr0, 4) := by unfold decF; rw [if_pos (by omega)]
    rw [hd]
    refine (rdecode_not A n c 4 w (by omega) (fun W _ _ => ropen_short A l n c W hn h2)).mono ?_
    rintro r w' ⟨rfl, hb⟩
    exact ⟨none, 0, rfl, Nat.le_refl _, Rd.nil, hb⟩
  · obtain ⟨d, x, y, rfl⟩ := snoc_two l (by omega)
    obtain ⟨m, hm⟩ : ∃ m, d.length = m := ⟨_, rfl⟩
    have hl2 : (d ++ [x, y]).length = m + 2 := by simp [hm]
    have hx : (d ++ [x, y])[m]? = some x := by rw [List.getElem?_append_right (by omega), hm]; simp
    have hy : (d ++ [x, y])[m + 1]? = some y := by rw [List.getElem?_append_right (by omega), hm]; simp
    have ht : (d ++ [x, y]).take m = d := by rw [← hm]; simp
    obtain rfl : n = m + 2 := by omega
    rw [decF_snoc]
    by_cases h3 : sumI d = (x.toNat : Int) * 256 + (y.toNat : Int)
    · rw [if_neg (by simp [h3])]
      have h := rdecode_main A (d ++ [x, y]) c S w m x y hl2 hx hy (by rw [ht]; exact h3) hc (by omega) hr
      rw [ht] at h
      exact h
    · rw [if_pos (by simpa using h3)]
      refine (rdecode_not A (m + 2) c 5 w (by omega) (fun W _ hW => ropen_bad A (d ++ [x, y]) c S W m x y hl2 hx hy (by rw [ht]; exact h3) hc (by omega) (by rw [hW]; exact hr.alloc _))).mono ?_
      rintro r w' ⟨rfl, hb⟩
      exact ⟨none, 0, rfl, Nat.le_refl _, Rd.nil, hb⟩
end Go.Proofs.Ytogdbccfkbbcaaa
