/- The walks of package name. -/
import Derived.Test.YtogdbccfkbbcaaaWriterW
import Derived.Test.YtogdbccfkbbcaaaSameW
namespace Go.Proofs.Ytogdbccfkbbcaaa
open Go.RowKit
set_option linter.unusedSimpArgs false
theorem letter_calls (c : Nat) (w : World) : Calls Try.prog 115 #[.int .u8 (c : Int)] w fun r w' => (∃ b, r = .returned (.bool b)) ∧ w = w' := by
  by_cases h : decide ((97 : Int) ≤ (c : Int)) = true
  · go_enter Try.func115, Try.ntmps115
    go_wp2
    go_ret
    exact ⟨by first | exact ⟨_, rfl⟩ | exact .inl rfl | exact .inr rfl, rfl⟩
  · have h' : decide ((97 : Int) ≤ (c : Int)) = false := by simpa using h
    clear h
    go_enter Try.func115, Try.ntmps115
    go_wp2
    go_ret
    exact ⟨by first | exact ⟨_, rfl⟩ | exact .inl rfl | exact .inr rfl, rfl⟩
theorem zero_calls (c : Nat) (w : World) : Calls Try.prog 118 #[.int .u8 (c : Int)] w fun r w' => (∃ b, r = .returned (.bool b)) ∧ w = w' := by
  go_enter Try.func118, Try.ntmps118
  go_wp2
  go_ret
  exact ⟨by first | exact ⟨_, rfl⟩ | exact .inl rfl | exact .inr rfl, rfl⟩
theorem other_calls (c : Nat) (w : World) : Calls Try.prog 117 #[.int .u8 (c : Int)] w fun r w' => (∃ b, r = .returned (.bool b)) ∧ w = w' := by
  have T : decide ((48 : Int) ≤ (c : Int)) = false ∨ (decide ((48 : Int) ≤ (c : Int)) = true ∧ decide ((c : Int) ≤ 57) = true) ∨ (decide ((48 : Int) ≤ (c : Int)) = true ∧ decide ((c : Int) ≤ 57) = false) := by
    simp only [decide_eq_true_eq, decide_eq_false_iff_not]; omega
  have T2 : ((c : Int) == 45) = true ∨ ((c : Int) == 45) = false := by cases ((c : Int) == 45) <;> simp
  rcases T with T | ⟨T, T'⟩ | ⟨T, T'⟩ <;> rcases T2 with T2 | T2 <;>
  · go_enter Try.func117, Try.ntmps117
    go_wp2_with fail
    refine (letter_calls c _).mono ?_
    rintro r w1 ⟨⟨b, rfl⟩, rfl⟩
    cases b <;>
    · go_wp2
      go_ret
      exact ⟨by first | exact ⟨_, rfl⟩ | exact .inl rfl | exact .inr rfl, rfl⟩
set_option maxRecDepth 100000 in
theorem all_calls (fn : FuncId) (hf : fn = 117 ∨ fn = 118) (A : Option Addr) (n c : Nat) (l : List UInt8) (S : Nat → Prop) (w : World) (hn : l.length = n) (h8 : n ≤ 8) (hr : Rd B8 w S A l) :
    Calls Try.prog 116 #[.slice A n c, .func (.func fn) #[] #[]] w fun r w' => (∃ b, r = .returned (.bool b)) ∧ w = w' := by
  subst hn
  have ho := other_calls
  have hz := zero_calls
  rcases hf with rfl | rfl <;>
  · go_enter Try.func116, Try.ntmps116
    go_wp2
    go_loop [9] (fun i => ∃ k : Nat, k ≤ l.length ∧ i = .int .i64 k) (fun i => l.length - (intOf i).toNat)
    case atStart => exact ⟨0, by omega, rfl⟩
    case round =>
      obtain ⟨k, hk, rfl⟩ := hrel
      by_cases hlt : k < l.length
      · have hd : decide ((k : Int) < l.length) = true := by simp; omega
        have hd' : decide (k < l.length) = true := by simp; omega
        obtain ⟨b, o, x, rfl, _, hx, hc⟩ := hr.at_ hlt
        unfold B8 at hc
        clear hx hr
        go_wp2_with fail
        first | refine (ho x.toNat _).mono ?_ | refine (hz x.toNat _).mono ?_
        rintro r w1 ⟨⟨b, rfl⟩, rfl⟩
        cases b
        · go_wp2
          go_ret
          exact ⟨by first | exact ⟨_, rfl⟩ | exact .inl rfl | exact .inr rfl, rfl⟩
        · go_wp2
          go_round
          case rel => exact ⟨k + 1, by omega, by go_num⟩
          case measure => simp [intOf]; omega
      · have hd : decide ((k : Int) < l.length) = false := by simp; omega
        have hd' : decide (k < l.length) = false := by simp; omega
        go_wp2
        go_ret
        exact ⟨by first | exact ⟨_, rfl⟩ | exact .inl rfl | exact .inr rfl, rfl⟩
/-- A name: eight bytes. -/
structure Nm where
  b0 : UInt8
  b1 : UInt8
  b2 : UInt8
  b3 : UInt8
  b4 : UInt8
  b5 : UInt8
  b6 : UInt8
  b7 : UInt8
def nmL (n : Nm) : List UInt8 := [n.b0, n.b1, n.b2, n.b3, n.b4, n.b5, n.b6, n.b7]
theorem nmL_length (n : Nm) : (nmL n).length = 8 := rfl
theorem idx8 (nm : Nm) (k : Nat) (h : k < 8) : ∃ x : UInt8, ∀ W : World, (Instr.index 24 (.agg #[.int .u8 (nm.b0.toNat : Int), .int .u8 (nm.b1.toNat : Int), .int .u8 (nm.b2.toNat : Int), .int .u8 (nm.b3.toNat : Int), .int .u8 (nm.b4.toNat : Int), .int .u8 (nm.b5.toNat : Int), .int .u8 (nm.b6.toNat : Int), .int .u8 (nm.b7.toNat : Int)]) (.int .i64 (k : Int))).run Try.prog W = .ok (.int .u8 (x.toNat : Int)) W := by
  rcases (show k = 0 ∨ k = 1 ∨ k = 2 ∨ k = 3 ∨ k = 4 ∨ k = 5 ∨ k = 6 ∨ k = 7 by omega) with rfl | rfl | rfl | rfl | rfl | rfl | rfl | rfl
  · exact ⟨nm.b0, fun W => by kernel_rfl⟩
  · exact ⟨nm.b1, fun W => by kernel_rfl⟩
  · exact ⟨nm.b2, fun W => by kernel_rfl⟩
  · exact ⟨nm.b3, fun W => by kernel_rfl⟩
  · exact ⟨nm.b4, fun W => by kernel_rfl⟩
  · exact ⟨nm.b5, fun W => by kernel_rfl⟩
  · exact ⟨nm.b6, fun W => by kernel_rfl⟩
  · exact ⟨nm.b7, fun W => by kernel_rfl⟩
set_option maxRecDepth 100000 in
theorem nsize_calls (nm : Nm) (w : World) : Calls Try.prog 114 #[.agg #[.int .u8 (nm.b0.toNat : Int), .int .u8 (nm.b1.toNat : Int), .int .u8 (nm.b2.toNat : Int), .int .u8 (nm.b3.toNat : Int), .int .u8 (nm.b4.toNat : Int), .int .u8 (nm.b5.toNat : Int), .int .u8 (nm.b6.toNat : Int), .int .u8 (nm.b7.toNat : Int)]] w fun r w' => (∃ k : Nat, k ≤ 8 ∧ r = .returned (.int .i64 (k : Int))) ∧ Below w.heap.size w w' := by
  go_enter Try.func114, Try.ntmps114
  go_wp2_with fail
  have HB : Hid (Below w.heap.size w (w.alloc (.cells #[.int .u8 (nm.b0.toNat : Int), .int .u8 (nm.b1.toNat : Int), .int .u8 (nm.b2.toNat : Int), .int .u8 (nm.b3.toNat : Int), .int .u8 (nm.b4.toNat : Int), .int .u8 (nm.b5.toNat : Int), .int .u8 (nm.b6.toNat : Int), .int .u8 (nm.b7.toNat : Int)] 24))) := (Below.refl _ _).alloc (Nat.le_refl _) _
  generalize w.alloc (.cells #[.int .u8 (nm.b0.toNat : Int), .int .u8 (nm.b1.toNat : Int), .int .u8 (nm.b2.toNat : Int), .int .u8 (nm.b3.toNat : Int), .int .u8 (nm.b4.toNat : Int), .int .u8 (nm.b5.toNat : Int), .int .u8 (nm.b6.toNat : Int), .int .u8 (nm.b7.toNat : Int)] 24) = W at HB ⊢
  go_loop [6] (fun i => ∃ k : Nat, k ≤ 8 ∧ i = .int .i64 k) (fun i => 8 - (intOf i).toNat)
  case atStart => exact ⟨0, by omega, rfl⟩
  case round =>
    obtain ⟨k, hk, rfl⟩ := hrel
    by_cases hlt : k < 8
    · have hd : decide ((k : Int) < 8) = true := by simp; omega
      have hd' : decide (k < 8) = true := by simp; omega
      obtain ⟨x, hidx⟩ := idx8 nm k hlt
      have T : ((x.toNat : Int) == 0) = true ∨ ((x.toNat : Int) == 0) = false := by cases ((x.toNat : Int) == 0) <;> simp
      rcases T with T | T
      · go_wp2
        go_ret
        exact ⟨⟨k, by omega, rfl⟩, HB.out⟩
      · go_wp2
        go_round
        case rel => exact ⟨k + 1, by omega, by go_num⟩
        case measure => simp [intOf]; omega
    · obtain rfl : k = 8 := by omega
      have hd : decide (((8 : Nat) : Int) < 8) = false := by decide
      go_wp2
      go_ret
      exact ⟨⟨8, by omega, rfl⟩, HB.out⟩
theorem nm_rd {w : World} {g : Nat} {t : TypeId} (nm : Nm) (h : Blk w g t #[.int .u8 (nm.b0.toNat : Int), .int .u8 (nm.b1.toNat : Int), .int .u8 (nm.b2.toNat : Int), .int .u8 (nm.b3.toNat : Int), .int .u8 (nm.b4.toNat : Int), .int .u8 (nm.b5.toNat : Int), .int .u8 (nm.b6.toNat : Int), .int .u8 (nm.b7.toNat : Int)]) (k : Nat) : Rd B8 w (fun _ => True) (some ⟨g, k, none⟩) ((nmL nm).drop k) := by
  have h0 : Rd B8 w (fun _ => True) (some ⟨g, 0, none⟩) (nmL nm) := Rd.blk (t := t) (by exact h) trivial
  have h1 := h0.drop k
  simp only [Option.map_some, Addr.add] at h1
  split at h1 <;> simp_all
set_option maxHeartbeats 1000000 in
set_option maxRecDepth 100000 in
theorem nright_calls (nm : Nm) (w : World) : Calls Try.prog 98 #[.agg #[.int .u8 (nm.b0.toNat : Int), .int .u8 (nm.b1.toNat : Int), .int .u8 (nm.b2.toNat : Int), .int .u8 (nm.b3.toNat : Int), .int .u8 (nm.b4.toNat : Int), .int .u8 (nm.b5.toNat : Int), .int .u8 (nm.b6.toNat : Int), .int .u8 (nm.b7.toNat : Int)]] w fun r w' => (∃ b, r = .returned (.bool b)) ∧ Below w.heap.size w w' := by
  have hb0 := Blk.new w 24 #[.int .u8 (nm.b0.toNat : Int), .int .u8 (nm.b1.toNat : Int), .int .u8 (nm.b2.toNat : Int), .int .u8 (nm.b3.toNat : Int), .int .u8 (nm.b4.toNat : Int), .int .u8 (nm.b5.toNat : Int), .int .u8 (nm.b6.toNat : Int), .int .u8 (nm.b7.toNat : Int)]
  have HB : Hid (Below w.heap.size w (w.alloc (.cells #[.int .u8 (nm.b0.toNat : Int), .int .u8 (nm.b1.toNat : Int), .int .u8 (nm.b2.toNat : Int), .int .u8 (nm.b3.toNat : Int), .int .u8 (nm.b4.toNat : Int), .int .u8 (nm.b5.toNat : Int), .int .u8 (nm.b6.toNat : Int), .int .u8 (nm.b7.toNat : Int)] 24))) := (Below.refl _ _).alloc (Nat.le_refl _) _
  have hs0 : w.heap.size < (w.alloc (.cells #[.int .u8 (nm.b0.toNat : Int), .int .u8 (nm.b1.toNat : Int), .int .u8 (nm.b2.toNat : Int), .int .u8 (nm.b3.toNat : Int), .int .u8 (nm.b4.toNat : Int), .int .u8 (nm.b5.toNat : Int), .int .u8 (nm.b6.toNat : Int), .int .u8 (nm.b7.toNat : Int)] 24)).heap.size := by simp
  go_enter Try.func98, Try.ntmps98
  go_wp2_with fail
  generalize w.alloc (.cells #[.int .u8 (nm.b0.toNat : Int), .int .u8 (nm.b1.toNat : Int), .int .u8 (nm.b2.toNat : Int), .int .u8 (nm.b3.toNat : Int), .int .u8 (nm.b4.toNat : Int), .int .u8 (nm.b5.toNat : Int), .int .u8 (nm.b6.toNat : Int), .int .u8 (nm.b7.toNat : Int)] 24) = W at hb0 HB hs0 ⊢
  refine (nsize_calls nm W).mono ?_
  rintro r W1 ⟨⟨k, hk, rfl⟩, hb⟩
  have hb1 := hb0.below hb hs0
  have HB1 := Lib.hid (HB.out.trans (hb.mono (by omega)))
  have c0 := hb1.cell 0
  simp at c0
  clear hb hb0 HB
  have i1 : (k : Int) ≤ 8 := by omega
  have i2 : (0 : Int) ≤ (k : Int) := by omega
  have hr1 := Lib.hid ((nm_rd nm hb1 0).take k)
  have hr2 := Lib.hid (nm_rd nm hb1 k)
  clear hb1
  go_wp2_with fail
  refine (letter_calls nm.b0.toNat _).mono ?_
  rintro r W2 ⟨⟨b, rfl⟩, rfl⟩
  cases b
  · go_wp2
    go_ret
    exact ⟨by first | exact ⟨_, rfl⟩ | exact .inl rfl | exact .inr rfl, HB1.out⟩
  go_wp2_with fail
  refine (all_calls 117 (.inl rfl) (some ⟨w.heap.size, 0, none⟩) k 8 ((nmL nm).take k) _ _ (by rw [List.length_take, nmL_length]; omega) hk hr1.out).mono ?_
  rintro r W3 ⟨⟨b, rfl⟩, rfl⟩
  cases b
  · go_wp2
    go_ret
    exact ⟨by first | exact ⟨_, rfl⟩ | exact .inl rfl | exact .inr rfl, HB1.out⟩
  have h8 : ((nmL nm).drop k).length = 8 - k := by rw [List.length_drop, nmL_length]
  have H8 := Lib.hid h8
  clear h8
  go_wp2_with fail
  · refine (all_calls 118 (.inr rfl) (some ⟨w.heap.size, 0, none⟩) 0 0 [] (fun _ => True) _ rfl (by omega) Rd.nil).mono ?_
    rintro r W4 ⟨⟨b, rfl⟩, rfl⟩
    go_wp2
    go_ret
    exact ⟨by first | exact ⟨_, rfl⟩ | (cases b <;> first | exact .inl rfl | exact .inr rfl), HB1.out⟩
  · refine (all_calls 118 (.inr rfl) (some ⟨w.heap.size, k, none⟩) (8 - k) (8 - k) ((nmL nm).drop k) _ _ H8.out (by omega) hr2.out).mono ?_
    rintro r W4 ⟨⟨b, rfl⟩, rfl⟩
    go_wp2
    go_ret
    exact ⟨by first | exact ⟨_, rfl⟩ | (cases b <;> first | exact .inl rfl | exact .inr rfl), HB1.out⟩
end Go.Proofs.Ytogdbccfkbbcaaa
