/- The walk of atom.Right. -/
import Derived.Test.YtogdbccfkbbcaaaAtomR
namespace Go.Proofs.Ytogdbccfkbbcaaa
open Go.RowKit
set_option linter.unusedSimpArgs false
theorem atCells {w : World} {g : Nat} {t : TypeId} {a : At} (h : Blk w g t #[.int .u8 (a.k.sort.toNat : Int), .int .u16 (a.k.cart : Int), .int .u8 (a.k.item.b0.toNat : Int), .int .u8 (a.k.item.b1.toNat : Int), .int .u8 (a.k.item.b2.toNat : Int), .int .u8 (a.k.item.b3.toNat : Int), .int .u8 (a.k.item.b4.toNat : Int), .int .u8 (a.k.item.b5.toNat : Int), .int .u8 (a.k.item.b6.toNat : Int), .int .u8 (a.k.item.b7.toNat : Int), .int .u8 (a.k.rep.toNat : Int), .int .u32 (a.k.seq : Int), .int .u64 (a.v.n : Int), .int .u8 (a.v.text.b0.toNat : Int), .int .u8 (a.v.text.b1.toNat : Int), .int .u8 (a.v.text.b2.toNat : Int), .int .u8 (a.v.text.b3.toNat : Int), .int .u8 (a.v.text.b4.toNat : Int), .int .u8 (a.v.text.b5.toNat : Int), .int .u8 (a.v.text.b6.toNat : Int), .int .u8 (a.v.text.b7.toNat : Int)]) : w.cell? ⟨g, 0, none⟩ = some (.int .u8 (a.k.sort.toNat : Int)) ∧ w.cell? ⟨g, 1, none⟩ = some (.int .u16 (a.k.cart : Int)) ∧ w.cell? ⟨g, 2, none⟩ = some (.int .u8 (a.k.item.b0.toNat : Int)) ∧ w.cell? ⟨g, 3, none⟩ = some (.int .u8 (a.k.item.b1.toNat : Int)) ∧ w.cell? ⟨g, 4, none⟩ = some (.int .u8 (a.k.item.b2.toNat : Int)) ∧ w.cell? ⟨g, 5, none⟩ = some (.int .u8 (a.k.item.b3.toNat : Int)) ∧ w.cell? ⟨g, 6, none⟩ = some (.int .u8 (a.k.item.b4.toNat : Int)) ∧ w.cell? ⟨g, 7, none⟩ = some (.int .u8 (a.k.item.b5.toNat : Int)) ∧ w.cell? ⟨g, 8, none⟩ = some (.int .u8 (a.k.item.b6.toNat : Int)) ∧ w.cell? ⟨g, 9, none⟩ = some (.int .u8 (a.k.item.b7.toNat : Int)) ∧ w.cell? ⟨g, 10, none⟩ = some (.int .u8 (a.k.rep.toNat : Int)) ∧ w.cell? ⟨g, 11, none⟩ = some (.int .u32 (a.k.seq : Int)) ∧ w.cell? ⟨g, 12, none⟩ = some (.int .u64 (a.v.n : Int)) ∧ w.cell? ⟨g, 13, none⟩ = some (.int .u8 (a.v.text.b0.toNat : Int)) ∧ w.cell? ⟨g, 14, none⟩ = some (.int .u8 (a.v.text.b1.toNat : Int)) ∧ w.cell? ⟨g, 15, none⟩ = some (.int .u8 (a.v.text.b2.toNat : Int)) ∧ w.cell? ⟨g, 16, none⟩ = some (.int .u8 (a.v.text.b3.toNat : Int)) ∧ w.cell? ⟨g, 17, none⟩ = some (.int .u8 (a.v.text.b4.toNat : Int)) ∧ w.cell? ⟨g, 18, none⟩ = some (.int .u8 (a.v.text.b5.toNat : Int)) ∧ w.cell? ⟨g, 19, none⟩ = some (.int .u8 (a.v.text.b6.toNat : Int)) ∧ w.cell? ⟨g, 20, none⟩ = some (.int .u8 (a.v.text.b7.toNat : Int)) :=
  ⟨h.cell 0, h.cell 1, h.cell 2, h.cell 3, h.cell 4, h.cell 5, h.cell 6, h.cell 7, h.cell 8, h.cell 9, h.cell 10, h.cell 11, h.cell 12, h.cell 13, h.cell 14, h.cell 15, h.cell 16, h.cell 17, h.cell 18, h.cell 19, h.cell 20⟩
set_option maxHeartbeats 4000000 in
set_option maxRecDepth 100000 in
theorem aright_calls (a : At) (w : World) : Calls Try.prog 53 #[.agg #[.int .u8 (a.k.sort.toNat : Int), .int .u16 (a.k.cart : Int), .int .u8 (a.k.item.b0.toNat : Int), .int .u8 (a.k.item.b1.toNat : Int), .int .u8 (a.k.item.b2.toNat : Int), .int .u8 (a.k.item.b3.toNat : Int), .int .u8 (a.k.item.b4.toNat : Int), .int .u8 (a.k.item.b5.toNat : Int), .int .u8 (a.k.item.b6.toNat : Int), .int .u8 (a.k.item.b7.toNat : Int), .int .u8 (a.k.rep.toNat : Int), .int .u32 (a.k.seq : Int), .int .u64 (a.v.n : Int), .int .u8 (a.v.text.b0.toNat : Int), .int .u8 (a.v.text.b1.toNat : Int), .int .u8 (a.v.text.b2.toNat : Int), .int .u8 (a.v.text.b3.toNat : Int), .int .u8 (a.v.text.b4.toNat : Int), .int .u8 (a.v.text.b5.toNat : Int), .int .u8 (a.v.text.b6.toNat : Int), .int .u8 (a.v.text.b7.toNat : Int)]] w fun r w' => (∃ b, r = .returned (.bool b) ∧ (b = true → Fine a)) ∧ Below w.heap.size w w' := by
  have hb0 := (Blk.new w 32 #[.int .u8 (a.k.sort.toNat : Int), .int .u16 (a.k.cart : Int), .int .u8 (a.k.item.b0.toNat : Int), .int .u8 (a.k.item.b1.toNat : Int), .int .u8 (a.k.item.b2.toNat : Int), .int .u8 (a.k.item.b3.toNat : Int), .int .u8 (a.k.item.b4.toNat : Int), .int .u8 (a.k.item.b5.toNat : Int), .int .u8 (a.k.item.b6.toNat : Int), .int .u8 (a.k.item.b7.toNat : Int), .int .u8 (a.k.rep.toNat : Int), .int .u32 (a.k.seq : Int), .int .u64 (a.v.n : Int), .int .u8 (a.v.text.b0.toNat : Int), .int .u8 (a.v.text.b1.toNat : Int), .int .u8 (a.v.text.b2.toNat : Int), .int .u8 (a.v.text.b3.toNat : Int), .int .u8 (a.v.text.b4.toNat : Int), .int .u8 (a.v.text.b5.toNat : Int), .int .u8 (a.v.text.b6.toNat : Int), .int .u8 (a.v.text.b7.toNat : Int)]).drew
  have HB : Hid (Below w.heap.size w (w.alloc (.cells #[.int .u8 (a.k.sort.toNat : Int), .int .u16 (a.k.cart : Int), .int .u8 (a.k.item.b0.toNat : Int), .int .u8 (a.k.item.b1.toNat : Int), .int .u8 (a.k.item.b2.toNat : Int), .int .u8 (a.k.item.b3.toNat : Int), .int .u8 (a.k.item.b4.toNat : Int), .int .u8 (a.k.item.b5.toNat : Int), .int .u8 (a.k.item.b6.toNat : Int), .int .u8 (a.k.item.b7.toNat : Int), .int .u8 (a.k.rep.toNat : Int), .int .u32 (a.k.seq : Int), .int .u64 (a.v.n : Int), .int .u8 (a.v.text.b0.toNat : Int), .int .u8 (a.v.text.b1.toNat : Int), .int .u8 (a.v.text.b2.toNat : Int), .int .u8 (a.v.text.b3.toNat : Int), .int .u8 (a.v.text.b4.toNat : Int), .int .u8 (a.v.text.b5.toNat : Int), .int .u8 (a.v.text.b6.toNat : Int), .int .u8 (a.v.text.b7.toNat : Int)] 32)).drew) := below_drewN ((Below.refl _ _).alloc (Nat.le_refl _) _) 1
  have hs0 : w.heap.size < (w.alloc (.cells #[.int .u8 (a.k.sort.toNat : Int), .int .u16 (a.k.cart : Int), .int .u8 (a.k.item.b0.toNat : Int), .int .u8 (a.k.item.b1.toNat : Int), .int .u8 (a.k.item.b2.toNat : Int), .int .u8 (a.k.item.b3.toNat : Int), .int .u8 (a.k.item.b4.toNat : Int), .int .u8 (a.k.item.b5.toNat : Int), .int .u8 (a.k.item.b6.toNat : Int), .int .u8 (a.k.item.b7.toNat : Int), .int .u8 (a.k.rep.toNat : Int), .int .u32 (a.k.seq : Int), .int .u64 (a.v.n : Int), .int .u8 (a.v.text.b0.toNat : Int), .int .u8 (a.v.text.b1.toNat : Int), .int .u8 (a.v.text.b2.toNat : Int), .int .u8 (a.v.text.b3.toNat : Int), .int .u8 (a.v.text.b4.toNat : Int), .int .u8 (a.v.text.b5.toNat : Int), .int .u8 (a.v.text.b6.toNat : Int), .int .u8 (a.v.text.b7.toNat : Int)] 32)).drew.heap.size := by show w.heap.size < (w.alloc (.cells #[.int .u8 (a.k.sort.toNat : Int), .int .u16 (a.k.cart : Int), .int .u8 (a.k.item.b0.toNat : Int), .int .u8 (a.k.item.b1.toNat : Int), .int .u8 (a.k.item.b2.toNat : Int), .int .u8 (a.k.item.b3.toNat : Int), .int .u8 (a.k.item.b4.toNat : Int), .int .u8 (a.k.item.b5.toNat : Int), .int .u8 (a.k.item.b6.toNat : Int), .int .u8 (a.k.item.b7.toNat : Int), .int .u8 (a.k.rep.toNat : Int), .int .u32 (a.k.seq : Int), .int .u64 (a.v.n : Int), .int .u8 (a.v.text.b0.toNat : Int), .int .u8 (a.v.text.b1.toNat : Int), .int .u8 (a.v.text.b2.toNat : Int), .int .u8 (a.v.text.b3.toNat : Int), .int .u8 (a.v.text.b4.toNat : Int), .int .u8 (a.v.text.b5.toNat : Int), .int .u8 (a.v.text.b6.toNat : Int), .int .u8 (a.v.text.b7.toNat : Int)] 32)).heap.size; simp
  go_enter Try.func53, Try.ntmps53
  go_upto_region 1 with (fail)
  refine wp_region_held_drew (S := fun w' => Blk w' w.heap.size 32 #[.int .u8 (a.k.sort.toNat : Int), .int .u16 (a.k.cart : Int), .int .u8 (a.k.item.b0.toNat : Int), .int .u8 (a.k.item.b1.toNat : Int), .int .u8 (a.k.item.b2.toNat : Int), .int .u8 (a.k.item.b3.toNat : Int), .int .u8 (a.k.item.b4.toNat : Int), .int .u8 (a.k.item.b5.toNat : Int), .int .u8 (a.k.item.b6.toNat : Int), .int .u8 (a.k.item.b7.toNat : Int), .int .u8 (a.k.rep.toNat : Int), .int .u32 (a.k.seq : Int), .int .u64 (a.v.n : Int), .int .u8 (a.v.text.b0.toNat : Int), .int .u8 (a.v.text.b1.toNat : Int), .int .u8 (a.v.text.b2.toNat : Int), .int .u8 (a.v.text.b3.toNat : Int), .int .u8 (a.v.text.b4.toNat : Int), .int .u8 (a.v.text.b5.toNat : Int), .int .u8 (a.v.text.b6.toNat : Int), .int .u8 (a.v.text.b7.toNat : Int)]) (by kernel_rfl) hb0 (fun hHeld => ?_)
  generalize (w.alloc (.cells #[.int .u8 (a.k.sort.toNat : Int), .int .u16 (a.k.cart : Int), .int .u8 (a.k.item.b0.toNat : Int), .int .u8 (a.k.item.b1.toNat : Int), .int .u8 (a.k.item.b2.toNat : Int), .int .u8 (a.k.item.b3.toNat : Int), .int .u8 (a.k.item.b4.toNat : Int), .int .u8 (a.k.item.b5.toNat : Int), .int .u8 (a.k.item.b6.toNat : Int), .int .u8 (a.k.item.b7.toNat : Int), .int .u8 (a.k.rep.toNat : Int), .int .u32 (a.k.seq : Int), .int .u64 (a.v.n : Int), .int .u8 (a.v.text.b0.toNat : Int), .int .u8 (a.v.text.b1.toNat : Int), .int .u8 (a.v.text.b2.toNat : Int), .int .u8 (a.v.text.b3.toNat : Int), .int .u8 (a.v.text.b4.toNat : Int), .int .u8 (a.v.text.b5.toNat : Int), .int .u8 (a.v.text.b6.toNat : Int), .int .u8 (a.v.text.b7.toNat : Int)] 32)).drew = W at hb0 HB hs0 hHeld ⊢
  refine wpAnyH_take (i := 0) (oi := { dst := some 3, op := .fieldAddr 32 (.tmp 1) 0, type := 0, pos := "atom.go:48", after := #[], guard := none }) (v := .pointer (some ⟨w.heap.size, 0, none⟩)) rfl (by kernel_rfl) (by kernel_rfl) (by kernel_rfl) (fun _ _ _ h => h) (Or.inl ⟨by rfl, ?_⟩) (by assumption) ?_
  · intro w9 hSw
    go_simp
  try simp only [Act.put, List.setIfInBounds_toArray, List.set_cons_zero, List.set_cons_succ]
  refine wpAnyH_take (i := 1) (oi := { dst := some 4, op := .load 27 (.tmp 3), type := 27, pos := "atom.go:48", after := #[{ on := 0, ground := .data }], guard := none }) (v := .agg #[.int .u8 (a.k.sort.toNat : Int), .int .u16 (a.k.cart : Int), .int .u8 (a.k.item.b0.toNat : Int), .int .u8 (a.k.item.b1.toNat : Int), .int .u8 (a.k.item.b2.toNat : Int), .int .u8 (a.k.item.b3.toNat : Int), .int .u8 (a.k.item.b4.toNat : Int), .int .u8 (a.k.item.b5.toNat : Int), .int .u8 (a.k.item.b6.toNat : Int), .int .u8 (a.k.item.b7.toNat : Int), .int .u8 (a.k.rep.toNat : Int), .int .u32 (a.k.seq : Int)]) rfl (by kernel_rfl) (by kernel_rfl) (by kernel_rfl) (fun _ _ _ h => h) (Or.inl ⟨by rfl, ?_⟩) (by assumption) ?_
  · intro w9 hSw
    (have hz : Blk w9 w.heap.size 32 #[.int .u8 (a.k.sort.toNat : Int), .int .u16 (a.k.cart : Int), .int .u8 (a.k.item.b0.toNat : Int), .int .u8 (a.k.item.b1.toNat : Int), .int .u8 (a.k.item.b2.toNat : Int), .int .u8 (a.k.item.b3.toNat : Int), .int .u8 (a.k.item.b4.toNat : Int), .int .u8 (a.k.item.b5.toNat : Int), .int .u8 (a.k.item.b6.toNat : Int), .int .u8 (a.k.item.b7.toNat : Int), .int .u8 (a.k.rep.toNat : Int), .int .u32 (a.k.seq : Int), .int .u64 (a.v.n : Int), .int .u8 (a.v.text.b0.toNat : Int), .int .u8 (a.v.text.b1.toNat : Int), .int .u8 (a.v.text.b2.toNat : Int), .int .u8 (a.v.text.b3.toNat : Int), .int .u8 (a.v.text.b4.toNat : Int), .int .u8 (a.v.text.b5.toNat : Int), .int .u8 (a.v.text.b6.toNat : Int), .int .u8 (a.v.text.b7.toNat : Int)] := hSw; obtain ⟨x0, x1, x2, x3, x4, x5, x6, x7, x8, x9, x10, x11, x12, x13, x14, x15, x16, x17, x18, x19, x20⟩ := atCells hz; clear hz hSw; go_simp)
  try simp only [Act.put, List.setIfInBounds_toArray, List.set_cons_zero, List.set_cons_succ]
  refine wpAnyH_ready (rs := [2]) (by kernel_rfl) (by simp) ?_
  refine AllReadyH.cons (o := { dst := some 5, op := .call { callee := .value (.func 82), args := #[.tmp 4], argTypes := #[27] }, type := 4, pos := "atom.go:48", after := #[{ on := 1, ground := .data }], guard := none }) rfl (fun K hK => ?_) AllReadyH.nil
  go_simp
  go_at_call 82
  refine (kright_calls a.k _).mono ?_
  rintro r W3 ⟨⟨b, rfl, hbt⟩, hb3⟩
  have hk3 := hb0.below hb3 hs0
  have HB3 := Lib.hid (HB.out.trans (hb3.mono (by omega)))
  have hs3 : w.heap.size < W3.heap.size := by have := hb3.size; omega
  clear hb3 HB hb0
  refine hK.out _ _ hk3 (fun hHeld => ?_)
  clear hK K
  try simp only [Act.put, List.setIfInBounds_toArray, List.set_cons_zero, List.set_cons_succ]
  cases b
  · clear hbt
    refine wpAnyH_take (i := 3) (oi := { dst := some 6, op := .move (.tmp 5), type := 4, pos := "atom.go:48", after := #[{ on := 2, ground := .data }, { on := 2, ground := .chain }], guard := none }) (v := .bool false) rfl (by kernel_rfl) (by kernel_rfl) (by kernel_rfl) (fun _ _ _ h => h) (Or.inl ⟨by rfl, ?_⟩) (by assumption) ?_
    · intro w9 hSw
      go_simp
    try simp only [Act.put, List.setIfInBounds_toArray, List.set_cons_zero, List.set_cons_succ]
    refine wpAnyH_take (i := 4) (oi := { dst := some 7, op := .call { callee := .value (.func 83), args := #[], argTypes := #[] }, type := 117, pos := "atom.go:48", after := #[{ on := 3, ground := .chain }, { on := 3, ground := .guard }], guard := some (3, true) }) (v := undef) rfl (by kernel_rfl) (by kernel_rfl) (by kernel_rfl) (fun _ _ _ h => h) (Or.inr ⟨by rfl, rfl⟩) (by assumption) ?_
    try simp only [Act.put, List.setIfInBounds_toArray, List.set_cons_zero, List.set_cons_succ]
    refine wpAnyH_take (i := 5) (oi := { dst := some 8, op := .fieldAddr 32 (.tmp 1) 0, type := 0, pos := "atom.go:48", after := #[{ on := 3, ground := .guard }], guard := some (3, true) }) (v := undef) rfl (by kernel_rfl) (by kernel_rfl) (by kernel_rfl) (fun _ _ _ h => h) (Or.inr ⟨by rfl, rfl⟩) (by assumption) ?_
    try simp only [Act.put, List.setIfInBounds_toArray, List.set_cons_zero, List.set_cons_succ]
    refine wpAnyH_take (i := 6) (oi := { dst := some 9, op := .fieldAddr 27 (.tmp 8) 0, type := 0, pos := "atom.go:48", after := #[{ on := 5, ground := .data }, { on := 3, ground := .guard }], guard := some (3, true) }) (v := undef) rfl (by kernel_rfl) (by kernel_rfl) (by kernel_rfl) (fun _ _ _ h => h) (Or.inr ⟨by rfl, rfl⟩) (by assumption) ?_
    try simp only [Act.put, List.setIfInBounds_toArray, List.set_cons_zero, List.set_cons_succ]
    refine wpAnyH_take (i := 7) (oi := { dst := some 10, op := .load 5 (.tmp 9), type := 5, pos := "atom.go:48", after := #[{ on := 6, ground := .data }, { on := 3, ground := .guard }], guard := some (3, true) }) (v := undef) rfl (by kernel_rfl) (by kernel_rfl) (by kernel_rfl) (fun _ _ _ h => h) (Or.inr ⟨by rfl, rfl⟩) (by assumption) ?_
    try simp only [Act.put, List.setIfInBounds_toArray, List.set_cons_zero, List.set_cons_succ]
    refine wpAnyH_take (i := 8) (oi := { dst := some 11, op := .index 117 (.tmp 7) (.tmp 10), type := 116, pos := "atom.go:48", after := #[{ on := 4, ground := .data }, { on := 7, ground := .data }, { on := 3, ground := .guard }], guard := some (3, true) }) (v := undef) rfl (by kernel_rfl) (by kernel_rfl) (by kernel_rfl) (fun _ _ _ h => h) (Or.inr ⟨by rfl, rfl⟩) (by assumption) ?_
    try simp only [Act.put, List.setIfInBounds_toArray, List.set_cons_zero, List.set_cons_succ]
    refine wpAnyH_take (i := 9) (oi := { dst := some 12, op := .fieldAddr 32 (.tmp 1) 1, type := 0, pos := "atom.go:48", after := #[{ on := 3, ground := .guard }], guard := some (3, true) }) (v := undef) rfl (by kernel_rfl) (by kernel_rfl) (by kernel_rfl) (fun _ _ _ h => h) (Or.inr ⟨by rfl, rfl⟩) (by assumption) ?_
    try simp only [Act.put, List.setIfInBounds_toArray, List.set_cons_zero, List.set_cons_succ]
    refine wpAnyH_take (i := 10) (oi := { dst := some 13, op := .load 30 (.tmp 12), type := 30, pos := "atom.go:48", after := #[{ on := 9, ground := .data }, { on := 3, ground := .guard }], guard := some (3, true) }) (v := undef) rfl (by kernel_rfl) (by kernel_rfl) (by kernel_rfl) (fun _ _ _ h => h) (Or.inr ⟨by rfl, rfl⟩) (by assumption) ?_
    try simp only [Act.put, List.setIfInBounds_toArray, List.set_cons_zero, List.set_cons_succ]
    refine wpAnyH_take (i := 11) (oi := { dst := some 14, op := .call { callee := .value (.tmp 11), args := #[.tmp 13], argTypes := #[30] }, type := 4, pos := "atom.go:48", after := #[{ on := 8, ground := .data }, { on := 10, ground := .data }, { on := 4, ground := .chain }, { on := 3, ground := .guard }], guard := some (3, true) }) (v := undef) rfl (by kernel_rfl) (by kernel_rfl) (by kernel_rfl) (fun _ _ _ h => h) (Or.inr ⟨by rfl, rfl⟩) (by assumption) ?_
    try simp only [Act.put, List.setIfInBounds_toArray, List.set_cons_zero, List.set_cons_succ]
    refine wpAnyH_take (i := 12) (oi := { dst := some 15, op := .pick (.tmp 6) (.tmp 14) (.const (.bool false)), type := 4, pos := "atom.go:48", after := #[{ on := 3, ground := .data }, { on := 11, ground := .data }], guard := none }) (v := .bool false) rfl (by kernel_rfl) (by kernel_rfl) (by kernel_rfl) (fun _ _ _ h => h) (Or.inl ⟨by rfl, ?_⟩) (by assumption) ?_
    · intro w9 hSw
      go_simp
    try simp only [Act.put, List.setIfInBounds_toArray, List.set_cons_zero, List.set_cons_succ]
    refine wpAnyH_take (i := 13) (oi := { dst := some 2, op := .assign (.tmp 15), type := 4, pos := "atom.go:48", after := #[{ on := 12, ground := .data }, { on := 11, ground := .chain }, { on := 0, ground := .phase }, { on := 1, ground := .phase }, { on := 2, ground := .phase }, { on := 3, ground := .phase }, { on := 4, ground := .phase }, { on := 5, ground := .phase }, { on := 6, ground := .phase }, { on := 7, ground := .phase }, { on := 8, ground := .phase }, { on := 9, ground := .phase }, { on := 10, ground := .phase }, { on := 11, ground := .phase }, { on := 12, ground := .phase }], guard := none }) (v := .bool false) rfl (by kernel_rfl) (by kernel_rfl) (by kernel_rfl) (fun _ _ _ h => h) (Or.inl ⟨by rfl, ?_⟩) (by assumption) ?_
    · intro w9 hSw
      go_simp
    try simp only [Act.put, List.setIfInBounds_toArray, List.set_cons_zero, List.set_cons_succ]
    refine wpAnyH_done (by kernel_rfl) ?_ _
    go_wp2
    go_ret
    exact ⟨⟨_, rfl, fun h => by cases h⟩, HB3.out⟩
  · have hbt2 := Lib.hid (hbt rfl)
    clear hbt
    refine wpAnyH_take (i := 3) (oi := { dst := some 6, op := .move (.tmp 5), type := 4, pos := "atom.go:48", after := #[{ on := 2, ground := .data }, { on := 2, ground := .chain }], guard := none }) (v := .bool true) rfl (by kernel_rfl) (by kernel_rfl) (by kernel_rfl) (fun _ _ _ h => h) (Or.inl ⟨by rfl, ?_⟩) (by assumption) ?_
    · intro w9 hSw
      go_simp
    try simp only [Act.put, List.setIfInBounds_toArray, List.set_cons_zero, List.set_cons_succ]
    refine wpAnyH_take (i := 5) (oi := { dst := some 8, op := .fieldAddr 32 (.tmp 1) 0, type := 0, pos := "atom.go:48", after := #[{ on := 3, ground := .guard }], guard := some (3, true) }) (v := .pointer (some ⟨w.heap.size, 0, none⟩)) rfl (by kernel_rfl) (by kernel_rfl) (by kernel_rfl) (fun _ _ _ h => h) (Or.inl ⟨by rfl, ?_⟩) (by assumption) ?_
    · intro w9 hSw
      go_simp
    try simp only [Act.put, List.setIfInBounds_toArray, List.set_cons_zero, List.set_cons_succ]
    refine wpAnyH_take (i := 6) (oi := { dst := some 9, op := .fieldAddr 27 (.tmp 8) 0, type := 0, pos := "atom.go:48", after := #[{ on := 5, ground := .data }, { on := 3, ground := .guard }], guard := some (3, true) }) (v := .pointer (some ⟨w.heap.size, 0, none⟩)) rfl (by kernel_rfl) (by kernel_rfl) (by kernel_rfl) (fun _ _ _ h => h) (Or.inl ⟨by rfl, ?_⟩) (by assumption) ?_
    · intro w9 hSw
      go_simp
    try simp only [Act.put, List.setIfInBounds_toArray, List.set_cons_zero, List.set_cons_succ]
    refine wpAnyH_take (i := 7) (oi := { dst := some 10, op := .load 5 (.tmp 9), type := 5, pos := "atom.go:48", after := #[{ on := 6, ground := .data }, { on := 3, ground := .guard }], guard := some (3, true) }) (v := .int .u8 (a.k.sort.toNat : Int)) rfl (by kernel_rfl) (by kernel_rfl) (by kernel_rfl) (fun _ _ _ h => h) (Or.inl ⟨by rfl, ?_⟩) (by assumption) ?_
    · intro w9 hSw
      (have hz : Blk w9 w.heap.size 32 #[.int .u8 (a.k.sort.toNat : Int), .int .u16 (a.k.cart : Int), .int .u8 (a.k.item.b0.toNat : Int), .int .u8 (a.k.item.b1.toNat : Int), .int .u8 (a.k.item.b2.toNat : Int), .int .u8 (a.k.item.b3.toNat : Int), .int .u8 (a.k.item.b4.toNat : Int), .int .u8 (a.k.item.b5.toNat : Int), .int .u8 (a.k.item.b6.toNat : Int), .int .u8 (a.k.item.b7.toNat : Int), .int .u8 (a.k.rep.toNat : Int), .int .u32 (a.k.seq : Int), .int .u64 (a.v.n : Int), .int .u8 (a.v.text.b0.toNat : Int), .int .u8 (a.v.text.b1.toNat : Int), .int .u8 (a.v.text.b2.toNat : Int), .int .u8 (a.v.text.b3.toNat : Int), .int .u8 (a.v.text.b4.toNat : Int), .int .u8 (a.v.text.b5.toNat : Int), .int .u8 (a.v.text.b6.toNat : Int), .int .u8 (a.v.text.b7.toNat : Int)] := hSw; obtain ⟨x0, x1, x2, x3, x4, x5, x6, x7, x8, x9, x10, x11, x12, x13, x14, x15, x16, x17, x18, x19, x20⟩ := atCells hz; clear hz hSw; go_simp)
    try simp only [Act.put, List.setIfInBounds_toArray, List.set_cons_zero, List.set_cons_succ]
    refine wpAnyH_take (i := 9) (oi := { dst := some 12, op := .fieldAddr 32 (.tmp 1) 1, type := 0, pos := "atom.go:48", after := #[{ on := 3, ground := .guard }], guard := some (3, true) }) (v := .pointer (some ⟨w.heap.size, 12, none⟩)) rfl (by kernel_rfl) (by kernel_rfl) (by kernel_rfl) (fun _ _ _ h => h) (Or.inl ⟨by rfl, ?_⟩) (by assumption) ?_
    · intro w9 hSw
      go_simp
    try simp only [Act.put, List.setIfInBounds_toArray, List.set_cons_zero, List.set_cons_succ]
    refine wpAnyH_take (i := 10) (oi := { dst := some 13, op := .load 30 (.tmp 12), type := 30, pos := "atom.go:48", after := #[{ on := 9, ground := .data }, { on := 3, ground := .guard }], guard := some (3, true) }) (v := .agg #[.int .u64 (a.v.n : Int), .int .u8 (a.v.text.b0.toNat : Int), .int .u8 (a.v.text.b1.toNat : Int), .int .u8 (a.v.text.b2.toNat : Int), .int .u8 (a.v.text.b3.toNat : Int), .int .u8 (a.v.text.b4.toNat : Int), .int .u8 (a.v.text.b5.toNat : Int), .int .u8 (a.v.text.b6.toNat : Int), .int .u8 (a.v.text.b7.toNat : Int)]) rfl (by kernel_rfl) (by kernel_rfl) (by kernel_rfl) (fun _ _ _ h => h) (Or.inl ⟨by rfl, ?_⟩) (by assumption) ?_
    · intro w9 hSw
      (have hz : Blk w9 w.heap.size 32 #[.int .u8 (a.k.sort.toNat : Int), .int .u16 (a.k.cart : Int), .int .u8 (a.k.item.b0.toNat : Int), .int .u8 (a.k.item.b1.toNat : Int), .int .u8 (a.k.item.b2.toNat : Int), .int .u8 (a.k.item.b3.toNat : Int), .int .u8 (a.k.item.b4.toNat : Int), .int .u8 (a.k.item.b5.toNat : Int), .int .u8 (a.k.item.b6.toNat : Int), .int .u8 (a.k.item.b7.toNat : Int), .int .u8 (a.k.rep.toNat : Int), .int .u32 (a.k.seq : Int), .int .u64 (a.v.n : Int), .int .u8 (a.v.text.b0.toNat : Int), .int .u8 (a.v.text.b1.toNat : Int), .int .u8 (a.v.text.b2.toNat : Int), .int .u8 (a.v.text.b3.toNat : Int), .int .u8 (a.v.text.b4.toNat : Int), .int .u8 (a.v.text.b5.toNat : Int), .int .u8 (a.v.text.b6.toNat : Int), .int .u8 (a.v.text.b7.toNat : Int)] := hSw; obtain ⟨x0, x1, x2, x3, x4, x5, x6, x7, x8, x9, x10, x11, x12, x13, x14, x15, x16, x17, x18, x19, x20⟩ := atCells hz; clear hz hSw; go_simp)
    try simp only [Act.put, List.setIfInBounds_toArray, List.set_cons_zero, List.set_cons_succ]
    refine wpAnyH_ready (rs := [4]) (by kernel_rfl) (by simp) ?_
    refine AllReadyH.cons (o := { dst := some 7, op := .call { callee := .value (.func 83), args := #[], argTypes := #[] }, type := 117, pos := "atom.go:48", after := #[{ on := 3, ground := .chain }, { on := 3, ground := .guard }], guard := some (3, true) }) rfl (fun K hK => ?_) AllReadyH.nil
    go_simp
    go_at_call 83
    refine (rules_calls _).mono ?_
    rintro r W4 ⟨rfl, hg4, hb4⟩
    have hk4 := hk3.below hb4 hs3
    have HB4 := Lib.hid (HB3.out.trans (hb4.mono (by omega)))
    have hs4 : w.heap.size < W4.heap.size := by have := hb4.size; omega
    clear hb4 HB3 hk3
    refine hK.out _ _ hk4 (fun hHeld => ?_)
    clear hK K
    try simp only [Act.put, List.setIfInBounds_toArray, List.set_cons_zero, List.set_cons_succ]
    generalize W3.heap.size + 1 = g at hg4 ⊢
    have hix := idx_rules g
    have T : a.k.sort.toNat = 1 ∨ a.k.sort.toNat = 2 ∨ a.k.sort.toNat = 3 ∨ a.k.sort.toNat = 4 := by have := hbt2.out; omega
    rcases T with T | T | T | T
    · have TI : (a.k.sort.toNat : Int) = 1 := by omega
      have hiq : ∀ W : World, (Instr.index 117 (.agg #[.func (.func 102) #[] #[], .func (.func 103) #[] #[.pointer (some ⟨g, 0, none⟩)], .func (.func 101) #[] #[.pointer (some ⟨g, 0, none⟩)], .func (.func 101) #[] #[.pointer (some ⟨g, 0, none⟩)], .func (.func 104) #[] #[.pointer (some ⟨g, 0, none⟩)]]) (.int .u8 (a.k.sort.toNat : Int))).run Try.prog W = .ok (.func (.func 103) #[] #[.pointer (some ⟨g, 0, none⟩)]) W := fun w9 => by rw [TI]; exact (hix w9).1
      refine wpAnyH_take (i := 8) (oi := { dst := some 11, op := .index 117 (.tmp 7) (.tmp 10), type := 116, pos := "atom.go:48", after := #[{ on := 4, ground := .data }, { on := 7, ground := .data }, { on := 3, ground := .guard }], guard := some (3, true) }) (v := .func (.func 103) #[] #[.pointer (some ⟨g, 0, none⟩)]) rfl (by kernel_rfl) (by kernel_rfl) (by kernel_rfl) (fun _ _ _ h => h) (Or.inl ⟨by rfl, ?_⟩) (by assumption) ?_
      · intro w9 hSw
        have hq := hiq w9; clear hix TI T hiq; go_simp
      try simp only [Act.put, List.setIfInBounds_toArray, List.set_cons_zero, List.set_cons_succ]
      clear TI hix hiq
      refine wpAnyH_ready (rs := [11]) (by kernel_rfl) (by simp) ?_
      refine AllReadyH.cons (o := { dst := some 14, op := .call { callee := .value (.tmp 11), args := #[.tmp 13], argTypes := #[30] }, type := 4, pos := "atom.go:48", after := #[{ on := 8, ground := .data }, { on := 10, ground := .data }, { on := 4, ground := .chain }, { on := 3, ground := .guard }], guard := some (3, true) }) rfl (fun K hK => ?_) AllReadyH.nil
      go_simp
      go_at_call 103
      refine (tag_calls a.v g _ hg4).mono ?_
      rintro r W5 ⟨⟨b, rfl⟩, hb5⟩

      have hk5 := hk4.below hb5 hs4
      have HB5 := Lib.hid (HB4.out.trans (hb5.mono (by omega)))
      have hfine : Hid (b = true → Fine a) := fun _ => ⟨by omega, by omega, fun h => by omega, fun h => by omega⟩
      clear hb5 HB4 hk4 T hbt2
      refine hK.out _ _ hk5 (fun hHeld => ?_)
      clear hK K
      try simp only [Act.put, List.setIfInBounds_toArray, List.set_cons_zero, List.set_cons_succ]
      refine wpAnyH_take (i := 12) (oi := { dst := some 15, op := .pick (.tmp 6) (.tmp 14) (.const (.bool false)), type := 4, pos := "atom.go:48", after := #[{ on := 3, ground := .data }, { on := 11, ground := .data }], guard := none }) (v := .bool b) rfl (by kernel_rfl) (by kernel_rfl) (by kernel_rfl) (fun _ _ _ h => h) (Or.inl ⟨by rfl, ?_⟩) (by assumption) ?_
      · intro w9 hSw
        go_simp
      try simp only [Act.put, List.setIfInBounds_toArray, List.set_cons_zero, List.set_cons_succ]
      refine wpAnyH_take (i := 13) (oi := { dst := some 2, op := .assign (.tmp 15), type := 4, pos := "atom.go:48", after := #[{ on := 12, ground := .data }, { on := 11, ground := .chain }, { on := 0, ground := .phase }, { on := 1, ground := .phase }, { on := 2, ground := .phase }, { on := 3, ground := .phase }, { on := 4, ground := .phase }, { on := 5, ground := .phase }, { on := 6, ground := .phase }, { on := 7, ground := .phase }, { on := 8, ground := .phase }, { on := 9, ground := .phase }, { on := 10, ground := .phase }, { on := 11, ground := .phase }, { on := 12, ground := .phase }], guard := none }) (v := .bool b) rfl (by kernel_rfl) (by kernel_rfl) (by kernel_rfl) (fun _ _ _ h => h) (Or.inl ⟨by rfl, ?_⟩) (by assumption) ?_
      · intro w9 hSw
        go_simp
      try simp only [Act.put, List.setIfInBounds_toArray, List.set_cons_zero, List.set_cons_succ]
      refine wpAnyH_done (by kernel_rfl) ?_ _
      go_wp2
      go_ret
      exact ⟨⟨b, rfl, hfine.out⟩, HB5.out⟩
    · have TI : (a.k.sort.toNat : Int) = 2 := by omega
      have hiq : ∀ W : World, (Instr.index 117 (.agg #[.func (.func 102) #[] #[], .func (.func 103) #[] #[.pointer (some ⟨g, 0, none⟩)], .func (.func 101) #[] #[.pointer (some ⟨g, 0, none⟩)], .func (.func 101) #[] #[.pointer (some ⟨g, 0, none⟩)], .func (.func 104) #[] #[.pointer (some ⟨g, 0, none⟩)]]) (.int .u8 (a.k.sort.toNat : Int))).run Try.prog W = .ok (.func (.func 101) #[] #[.pointer (some ⟨g, 0, none⟩)]) W := fun w9 => by rw [TI]; exact (hix w9).2.1
      refine wpAnyH_take (i := 8) (oi := { dst := some 11, op := .index 117 (.tmp 7) (.tmp 10), type := 116, pos := "atom.go:48", after := #[{ on := 4, ground := .data }, { on := 7, ground := .data }, { on := 3, ground := .guard }], guard := some (3, true) }) (v := .func (.func 101) #[] #[.pointer (some ⟨g, 0, none⟩)]) rfl (by kernel_rfl) (by kernel_rfl) (by kernel_rfl) (fun _ _ _ h => h) (Or.inl ⟨by rfl, ?_⟩) (by assumption) ?_
      · intro w9 hSw
        have hq := hiq w9; clear hix TI T hiq; go_simp
      try simp only [Act.put, List.setIfInBounds_toArray, List.set_cons_zero, List.set_cons_succ]
      clear TI hix hiq
      refine wpAnyH_ready (rs := [11]) (by kernel_rfl) (by simp) ?_
      refine AllReadyH.cons (o := { dst := some 14, op := .call { callee := .value (.tmp 11), args := #[.tmp 13], argTypes := #[30] }, type := 4, pos := "atom.go:48", after := #[{ on := 8, ground := .data }, { on := 10, ground := .data }, { on := 4, ground := .chain }, { on := 3, ground := .guard }], guard := some (3, true) }) rfl (fun K hK => ?_) AllReadyH.nil
      go_simp
      go_at_call 101
      refine (half_calls a.v g _ hg4).mono ?_
      rintro r W5 ⟨⟨b, rfl, hbx0⟩, hb5⟩
      have hbx := Lib.hid hbx0
      have hk5 := hk4.below hb5 hs4
      have HB5 := Lib.hid (HB4.out.trans (hb5.mono (by omega)))
      have hfine : Hid (b = true → Fine a) := fun h => ⟨by omega, by omega, fun _ => hbx.out h, fun h => by omega⟩
      clear hb5 HB4 hk4 T hbt2 hbx0 hbx
      refine hK.out _ _ hk5 (fun hHeld => ?_)
      clear hK K
      try simp only [Act.put, List.setIfInBounds_toArray, List.set_cons_zero, List.set_cons_succ]
      refine wpAnyH_take (i := 12) (oi := { dst := some 15, op := .pick (.tmp 6) (.tmp 14) (.const (.bool false)), type := 4, pos := "atom.go:48", after := #[{ on := 3, ground := .data }, { on := 11, ground := .data }], guard := none }) (v := .bool b) rfl (by kernel_rfl) (by kernel_rfl) (by kernel_rfl) (fun _ _ _ h => h) (Or.inl ⟨by rfl, ?_⟩) (by assumption) ?_
      · intro w9 hSw
        go_simp
      try simp only [Act.put, List.setIfInBounds_toArray, List.set_cons_zero, List.set_cons_succ]
      refine wpAnyH_take (i := 13) (oi := { dst := some 2, op := .assign (.tmp 15), type := 4, pos := "atom.go:48", after := #[{ on := 12, ground := .data }, { on := 11, ground := .chain }, { on := 0, ground := .phase }, { on := 1, ground := .phase }, { on := 2, ground := .phase }, { on := 3, ground := .phase }, { on := 4, ground := .phase }, { on := 5, ground := .phase }, { on := 6, ground := .phase }, { on := 7, ground := .phase }, { on := 8, ground := .phase }, { on := 9, ground := .phase }, { on := 10, ground := .phase }, { on := 11, ground := .phase }, { on := 12, ground := .phase }], guard := none }) (v := .bool b) rfl (by kernel_rfl) (by kernel_rfl) (by kernel_rfl) (fun _ _ _ h => h) (Or.inl ⟨by rfl, ?_⟩) (by assumption) ?_
      · intro w9 hSw
        go_simp
      try simp only [Act.put, List.setIfInBounds_toArray, List.set_cons_zero, List.set_cons_succ]
      refine wpAnyH_done (by kernel_rfl) ?_ _
      go_wp2
      go_ret
      exact ⟨⟨b, rfl, hfine.out⟩, HB5.out⟩
    · have TI : (a.k.sort.toNat : Int) = 3 := by omega
      have hiq : ∀ W : World, (Instr.index 117 (.agg #[.func (.func 102) #[] #[], .func (.func 103) #[] #[.pointer (some ⟨g, 0, none⟩)], .func (.func 101) #[] #[.pointer (some ⟨g, 0, none⟩)], .func (.func 101) #[] #[.pointer (some ⟨g, 0, none⟩)], .func (.func 104) #[] #[.pointer (some ⟨g, 0, none⟩)]]) (.int .u8 (a.k.sort.toNat : Int))).run Try.prog W = .ok (.func (.func 101) #[] #[.pointer (some ⟨g, 0, none⟩)]) W := fun w9 => by rw [TI]; exact (hix w9).2.2.1
      refine wpAnyH_take (i := 8) (oi := { dst := some 11, op := .index 117 (.tmp 7) (.tmp 10), type := 116, pos := "atom.go:48", after := #[{ on := 4, ground := .data }, { on := 7, ground := .data }, { on := 3, ground := .guard }], guard := some (3, true) }) (v := .func (.func 101) #[] #[.pointer (some ⟨g, 0, none⟩)]) rfl (by kernel_rfl) (by kernel_rfl) (by kernel_rfl) (fun _ _ _ h => h) (Or.inl ⟨by rfl, ?_⟩) (by assumption) ?_
      · intro w9 hSw
        have hq := hiq w9; clear hix TI T hiq; go_simp
      try simp only [Act.put, List.setIfInBounds_toArray, List.set_cons_zero, List.set_cons_succ]
      clear TI hix hiq
      refine wpAnyH_ready (rs := [11]) (by kernel_rfl) (by simp) ?_
      refine AllReadyH.cons (o := { dst := some 14, op := .call { callee := .value (.tmp 11), args := #[.tmp 13], argTypes := #[30] }, type := 4, pos := "atom.go:48", after := #[{ on := 8, ground := .data }, { on := 10, ground := .data }, { on := 4, ground := .chain }, { on := 3, ground := .guard }], guard := some (3, true) }) rfl (fun K hK => ?_) AllReadyH.nil
      go_simp
      go_at_call 101
      refine (half_calls a.v g _ hg4).mono ?_
      rintro r W5 ⟨⟨b, rfl, hbx0⟩, hb5⟩
      have hbx := Lib.hid hbx0
      have hk5 := hk4.below hb5 hs4
      have HB5 := Lib.hid (HB4.out.trans (hb5.mono (by omega)))
      have hfine : Hid (b = true → Fine a) := fun h => ⟨by omega, by omega, fun _ => hbx.out h, fun h => by omega⟩
      clear hb5 HB4 hk4 T hbt2 hbx0 hbx
      refine hK.out _ _ hk5 (fun hHeld => ?_)
      clear hK K
      try simp only [Act.put, List.setIfInBounds_toArray, List.set_cons_zero, List.set_cons_succ]
      refine wpAnyH_take (i := 12) (oi := { dst := some 15, op := .pick (.tmp 6) (.tmp 14) (.const (.bool false)), type := 4, pos := "atom.go:48", after := #[{ on := 3, ground := .data }, { on := 11, ground := .data }], guard := none }) (v := .bool b) rfl (by kernel_rfl) (by kernel_rfl) (by kernel_rfl) (fun _ _ _ h => h) (Or.inl ⟨by rfl, ?_⟩) (by assumption) ?_
      · intro w9 hSw
        go_simp
      try simp only [Act.put, List.setIfInBounds_toArray, List.set_cons_zero, List.set_cons_succ]
      refine wpAnyH_take (i := 13) (oi := { dst := some 2, op := .assign (.tmp 15), type := 4, pos := "atom.go:48", after := #[{ on := 12, ground := .data }, { on := 11, ground := .chain }, { on := 0, ground := .phase }, { on := 1, ground := .phase }, { on := 2, ground := .phase }, { on := 3, ground := .phase }, { on := 4, ground := .phase }, { on := 5, ground := .phase }, { on := 6, ground := .phase }, { on := 7, ground := .phase }, { on := 8, ground := .phase }, { on := 9, ground := .phase }, { on := 10, ground := .phase }, { on := 11, ground := .phase }, { on := 12, ground := .phase }], guard := none }) (v := .bool b) rfl (by kernel_rfl) (by kernel_rfl) (by kernel_rfl) (fun _ _ _ h => h) (Or.inl ⟨by rfl, ?_⟩) (by assumption) ?_
      · intro w9 hSw
        go_simp
      try simp only [Act.put, List.setIfInBounds_toArray, List.set_cons_zero, List.set_cons_succ]
      refine wpAnyH_done (by kernel_rfl) ?_ _
      go_wp2
      go_ret
      exact ⟨⟨b, rfl, hfine.out⟩, HB5.out⟩
    · have TI : (a.k.sort.toNat : Int) = 4 := by omega
      have hiq : ∀ W : World, (Instr.index 117 (.agg #[.func (.func 102) #[] #[], .func (.func 103) #[] #[.pointer (some ⟨g, 0, none⟩)], .func (.func 101) #[] #[.pointer (some ⟨g, 0, none⟩)], .func (.func 101) #[] #[.pointer (some ⟨g, 0, none⟩)], .func (.func 104) #[] #[.pointer (some ⟨g, 0, none⟩)]]) (.int .u8 (a.k.sort.toNat : Int))).run Try.prog W = .ok (.func (.func 104) #[] #[.pointer (some ⟨g, 0, none⟩)]) W := fun w9 => by rw [TI]; exact (hix w9).2.2.2
      refine wpAnyH_take (i := 8) (oi := { dst := some 11, op := .index 117 (.tmp 7) (.tmp 10), type := 116, pos := "atom.go:48", after := #[{ on := 4, ground := .data }, { on := 7, ground := .data }, { on := 3, ground := .guard }], guard := some (3, true) }) (v := .func (.func 104) #[] #[.pointer (some ⟨g, 0, none⟩)]) rfl (by kernel_rfl) (by kernel_rfl) (by kernel_rfl) (fun _ _ _ h => h) (Or.inl ⟨by rfl, ?_⟩) (by assumption) ?_
      · intro w9 hSw
        have hq := hiq w9; clear hix TI T hiq; go_simp
      try simp only [Act.put, List.setIfInBounds_toArray, List.set_cons_zero, List.set_cons_succ]
      clear TI hix hiq
      refine wpAnyH_ready (rs := [11]) (by kernel_rfl) (by simp) ?_
      refine AllReadyH.cons (o := { dst := some 14, op := .call { callee := .value (.tmp 11), args := #[.tmp 13], argTypes := #[30] }, type := 4, pos := "atom.go:48", after := #[{ on := 8, ground := .data }, { on := 10, ground := .data }, { on := 4, ground := .chain }, { on := 3, ground := .guard }], guard := some (3, true) }) rfl (fun K hK => ?_) AllReadyH.nil
      go_simp
      go_at_call 104
      refine (note_calls a.v g _ hg4).mono ?_
      rintro r W5 ⟨⟨b, rfl, hbx0⟩, hb5⟩
      have hbx := Lib.hid hbx0
      have hk5 := hk4.below hb5 hs4
      have HB5 := Lib.hid (HB4.out.trans (hb5.mono (by omega)))
      have hfine : Hid (b = true → Fine a) := fun h => ⟨by omega, by omega, fun h => by omega, fun _ => hbx.out h⟩
      clear hb5 HB4 hk4 T hbt2 hbx0 hbx
      refine hK.out _ _ hk5 (fun hHeld => ?_)
      clear hK K
      try simp only [Act.put, List.setIfInBounds_toArray, List.set_cons_zero, List.set_cons_succ]
      refine wpAnyH_take (i := 12) (oi := { dst := some 15, op := .pick (.tmp 6) (.tmp 14) (.const (.bool false)), type := 4, pos := "atom.go:48", after := #[{ on := 3, ground := .data }, { on := 11, ground := .data }], guard := none }) (v := .bool b) rfl (by kernel_rfl) (by kernel_rfl) (by kernel_rfl) (fun _ _ _ h => h) (Or.inl ⟨by rfl, ?_⟩) (by assumption) ?_
      · intro w9 hSw
        go_simp
      try simp only [Act.put, List.setIfInBounds_toArray, List.set_cons_zero, List.set_cons_succ]
      refine wpAnyH_take (i := 13) (oi := { dst := some 2, op := .assign (.tmp 15), type := 4, pos := "atom.go:48", after := #[{ on := 12, ground := .data }, { on := 11, ground := .chain }, { on := 0, ground := .phase }, { on := 1, ground := .phase }, { on := 2, ground := .phase }, { on := 3, ground := .phase }, { on := 4, ground := .phase }, { on := 5, ground := .phase }, { on := 6, ground := .phase }, { on := 7, ground := .phase }, { on := 8, ground := .phase }, { on := 9, ground := .phase }, { on := 10, ground := .phase }, { on := 11, ground := .phase }, { on := 12, ground := .phase }], guard := none }) (v := .bool b) rfl (by kernel_rfl) (by kernel_rfl) (by kernel_rfl) (fun _ _ _ h => h) (Or.inl ⟨by rfl, ?_⟩) (by assumption) ?_
      · intro w9 hSw
        go_simp
      try simp only [Act.put, List.setIfInBounds_toArray, List.set_cons_zero, List.set_cons_succ]
      refine wpAnyH_done (by kernel_rfl) ?_ _
      go_wp2
      go_ret
      exact ⟨⟨b, rfl, hfine.out⟩, HB5.out⟩
end Go.Proofs.Ytogdbccfkbbcaaa
