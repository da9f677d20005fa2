/- The walk: what must come at any rate (layer 27). -/
import Derived.Test.YtogdbccfkbbcaaaFrameG
import Derived.Test.YtogdbccfkbbcaaaSameW
import Derived.Lib.SlBytesConst
namespace Go.Proofs.Ytogdbccfkbbcaaa
open Go.RowKit
set_option linter.unusedSimpArgs false
def FrX : Fr := ⟨1, 0, 1, 0, 0, 0, 0, false, [120]⟩
theorem checkE_X : checkE FrX = 0 := by decide
theorem small_X : Small FrX := ⟨by decide, by decide, by decide⟩
set_option maxRecDepth 100000 in
theorem alive27_calls (w : World) : Calls Try.prog 10 #[] w fun r w' => r = .returned (.bool true) ∧ Below w.heap.size w w' := by
  have hcv := Lib.run_convert_bytes_const (P := Try.prog) w 36 5 #[.int .u8 120] 1 1 Try.underlying36 Try.underlying5
  have hrd : Rd B8 (w.alloc (.cells #[.int .u8 120] 5 (1, 2))) (fun _ => True) (some ⟨w.heap.size, 0, none⟩) [120] := fun _ => ⟨w.heap.size, 0, rfl, trivial, fun j hj => by
    obtain rfl : j = 0 := by simpa using hj
    rw [cell_of_row _ _ _ #[.int .u8 120] 5 (1, 2) (heap_alloc_new w _)]
    rfl⟩
  have hB0 : Below w.heap.size w (w.alloc (.cells #[.int .u8 120] 5 (1, 2))) := (Below.refl _ _).alloc (Nat.le_refl _) _
  have hs0 : (w.alloc (.cells #[.int .u8 120] 5 (1, 2))).heap.size = w.heap.size + 1 := World.size_alloc _ _
  go_enter Try.func10, Try.ntmps10
  go_wp2_with fail
  generalize w.alloc (.cells #[.int .u8 120] 5 (1, 2)) = W0 at hrd hB0 hs0 ⊢
  refine (encode_calls FrX (some ⟨w.heap.size, 0, none⟩) 1 1 rfl _ small_X (fun _ => ⟨_, hrd⟩)).mono ?_
  rintro r W1 ⟨A1, c1, rfl, hc1, hr1, hb1⟩
  have HB1 := Lib.hid (hB0.trans (hb1.mono (by omega)))
  have hs1 := hb1.size
  have hl := encS_length FrX small_X checkE_X
  have HE := Lib.hid (encF_good checkE_X)
  rw [HE.out] at hr1 hc1 ⊢
  have HD := Lib.hid (decF_enc FrX small_X checkE_X)
  have hl2 : FrX.data.length = 1 := rfl
  have hl3 : (encS FrX).length ≤ 1000000 := by omega
  clear hcv hrd hB0 hb1 hl hl2
  go_wp2_with fail
  refine (decode_calls A1 (encS FrX) (encS FrX).length c1 _ _ rfl hc1 hl3 hr1).mono ?_
  rw [HD.out]
  rintro r W2 ⟨A2, c2, rfl, hc2, hr2, hb2⟩
  have HB2 := Lib.hid (HB1.out.trans (hb2.mono (by omega)))
  have hs2 := hb2.size
  clear hb2 HB1 HE HD hr1 hr2 hc1 hc2 hl3
  have hR1 := fun W => room_calls 32 W (by omega) (by omega)
  have hR2 := fun W => room_calls 31 W (by omega) (by omega)
  go_wp2_with (first
    | (go_at_call 21; refine (hR1 _).mono ?_; rintro r W3 ⟨rfl, rfl⟩)
    | (go_at_call 21; refine (hR2 _).mono ?_; rintro r W3 ⟨rfl, rfl⟩))
  go_ret
  exact ⟨rfl, HB2.out.alloc HB2.out.size _⟩
end Go.Proofs.Ytogdbccfkbbcaaa
