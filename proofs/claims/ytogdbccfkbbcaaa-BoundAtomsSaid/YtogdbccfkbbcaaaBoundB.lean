/- The walk of bound.Bytes at n = 0: parts 8, 10, 11. -/
import Derived.Test.YtogdbccfkbbcaaaBoundA
namespace Go.Proofs.Ytogdbccfkbbcaaa
open Go.RowKit
set_option linter.unusedSimpArgs false
theorem Bd.row {w W : World} (h : Bd w W) {g : Nat} (hg : w.heap.size + 2 ≤ g) (cs : Array Value) : Bd w (W.setRow g cs) := by
  have hk : ∀ k, k ≠ g → (W.setRow g cs).heap[k]? = W.heap[k]? := fun k hk => by
    simp only [World.setRow, Array.getElem?_modify]
    rw [if_neg (fun e => hk e.symm)]
  exact ⟨(World.cell?_of_block (w := W) (hk w.heap.size (by omega))).trans h.n, (World.cell?_of_block (w := W) (hk (w.heap.size + 1) (by omega))).trans h.c, below_setRow h.bel (by omega) cs, by simpa [World.setRow] using h.size⟩
theorem eq_nil (fn : Fn) (first cap : Array Value) (W : World) : (binOp .eql 89 (.func fn first cap) .nilFunc).run Try.prog W = .ok (.bool false) W := by kernel_rfl
theorem info_rr : (Try.prog.info? 91).map (·.size) = some 12 := by kernel_rfl
set_option maxHeartbeats 8000000 in
set_option maxRecDepth 100000 in
theorem bytes0 (part : Nat) (hp : part = 8 ∨ part = 10 ∨ part = 11) (w : World) : Calls Try.prog 25 #[.int .u8 (part : Int), .int .i64 0] w fun r w' => r = .returned (.int .i64 (if part = 8 then 1 else 2)) ∧ Below w.heap.size w w' := by
  have hmf : ∀ (fn : Fn) (first cap : Array Value) (w : World), (Instr.makeFunc fn first cap).run Try.prog w = .ok (.func fn first cap) w := fun _ _ _ _ => rfl
  have hnil := eq_nil
  go_enter Try.func25, Try.ntmps25
  go_wp2_with fail
  refine (clip0 _).mono ?_
  rintro r W0 ⟨rfl, rfl⟩
  go_upto_region 4 with (fail)
  have hstV0 : Bd w ((w.alloc (.cells #[.int .i64 0] 3)).alloc (.cells #[.func (.func 58) #[] #[.pointer (some ⟨w.heap.size, 0, none⟩)]] 89)).drew := by
    have e1 := (Blk.new w 3 #[.int .i64 0]).alloc (.cells #[.func (.func 58) #[] #[.pointer (some ⟨w.heap.size, 0, none⟩)]] 89)
    have e2 := Blk.new (w.alloc (.cells #[.int .i64 0] 3)) 89 #[.func (.func 58) #[] #[.pointer (some ⟨w.heap.size, 0, none⟩)]]
    rw [World.size_alloc] at e2
    exact ⟨e1.cell 0, e2.cell 0, below_drewN (((Below.refl _ _).alloc (Nat.le_refl _) _).alloc (by simp) _) 1, by show w.heap.size + 2 ≤ ((w.alloc (.cells #[.int .i64 0] 3)).alloc (.cells #[.func (.func 58) #[] #[.pointer (some ⟨w.heap.size, 0, none⟩)]] 89)).heap.size; simp⟩
  refine wp_region_held_drew (S := fun w' => w'.cell? ⟨w.heap.size + 1, 0, none⟩ = some (.func (.func 58) #[] #[.pointer (some ⟨w.heap.size, 0, none⟩)])) (by kernel_rfl) hstV0.c (fun hHeld => ?_)
  generalize ((w.alloc (.cells #[.int .i64 0] 3)).alloc (.cells #[.func (.func 58) #[] #[.pointer (some ⟨w.heap.size, 0, none⟩)]] 89)).drew = V0 at hstV0 hHeld ⊢
  refine wpAnyH_take (i := 0) (oi := { dst := some 11, op := .move (.tmp 6), type := 90, pos := "bound.go:41", after := #[], guard := none }) (v := .func (.func 59) #[] #[]) rfl (by kernel_rfl) (by kernel_rfl) (by kernel_rfl) (fun _ _ _ h => h) (Or.inl ⟨by rfl, ?_⟩) (by assumption) ?_
  · intro w9 hSw
    go_simp
  try simp only [Act.put, List.setIfInBounds_toArray, List.set_cons_zero, List.set_cons_succ]
  refine wpAnyH_take (i := 2) (oi := { dst := some 13, op := .move (.tmp 6), type := 90, pos := "bound.go:41", after := #[], guard := none }) (v := .func (.func 59) #[] #[]) rfl (by kernel_rfl) (by kernel_rfl) (by kernel_rfl) (fun _ _ _ h => h) (Or.inl ⟨by rfl, ?_⟩) (by assumption) ?_
  · intro w9 hSw
    go_simp
  try simp only [Act.put, List.setIfInBounds_toArray, List.set_cons_zero, List.set_cons_succ]
  refine wpAnyH_take (i := 4) (oi := { dst := some 15, op := .move (.tmp 6), type := 90, pos := "bound.go:41", after := #[], guard := none }) (v := .func (.func 59) #[] #[]) rfl (by kernel_rfl) (by kernel_rfl) (by kernel_rfl) (fun _ _ _ h => h) (Or.inl ⟨by rfl, ?_⟩) (by assumption) ?_
  · intro w9 hSw
    go_simp
  try simp only [Act.put, List.setIfInBounds_toArray, List.set_cons_zero, List.set_cons_succ]
  refine wpAnyH_take (i := 6) (oi := { dst := some 17, op := .makeFunc (.func 61) #[] #[.tmp 5], type := 89, pos := "bound.go:41", after := #[], guard := none }) (v := .func (.func 61) #[] #[.pointer (some ⟨w.heap.size + 1, 0, none⟩)]) rfl (by kernel_rfl) (by kernel_rfl) (by kernel_rfl) (fun _ _ _ h => h) (Or.inl ⟨by rfl, ?_⟩) (by assumption) ?_
  · intro w9 hSw
    go_simp
  try simp only [Act.put, List.setIfInBounds_toArray, List.set_cons_zero, List.set_cons_succ]
  refine wpAnyH_take (i := 7) (oi := { dst := some 18, op := .load 89 (.tmp 5), type := 89, pos := "bound.go:41", after := #[], guard := none }) (v := .func (.func 58) #[] #[.pointer (some ⟨w.heap.size, 0, none⟩)]) rfl (by kernel_rfl) (by kernel_rfl) (by kernel_rfl) (fun _ _ _ h => h) (Or.inl ⟨by rfl, ?_⟩) (by assumption) ?_
  · intro w9 hSw
    (try dsimp only at hSw); go_simp
  try simp only [Act.put, List.setIfInBounds_toArray, List.set_cons_zero, List.set_cons_succ]
  refine wpAnyH_take (i := 8) (oi := { dst := some 19, op := .move (.tmp 6), type := 90, pos := "bound.go:41", after := #[], guard := none }) (v := .func (.func 59) #[] #[]) rfl (by kernel_rfl) (by kernel_rfl) (by kernel_rfl) (fun _ _ _ h => h) (Or.inl ⟨by rfl, ?_⟩) (by assumption) ?_
  · intro w9 hSw
    go_simp
  try simp only [Act.put, List.setIfInBounds_toArray, List.set_cons_zero, List.set_cons_succ]
  refine wpAnyH_take (i := 10) (oi := { dst := some 21, op := .load 89 (.tmp 5), type := 89, pos := "bound.go:41", after := #[], guard := none }) (v := .func (.func 58) #[] #[.pointer (some ⟨w.heap.size, 0, none⟩)]) rfl (by kernel_rfl) (by kernel_rfl) (by kernel_rfl) (fun _ _ _ h => h) (Or.inl ⟨by rfl, ?_⟩) (by assumption) ?_
  · intro w9 hSw
    (try dsimp only at hSw); go_simp
  try simp only [Act.put, List.setIfInBounds_toArray, List.set_cons_zero, List.set_cons_succ]
  refine wpAnyH_take (i := 11) (oi := { dst := some 22, op := .move (.tmp 6), type := 90, pos := "bound.go:41", after := #[], guard := none }) (v := .func (.func 59) #[] #[]) rfl (by kernel_rfl) (by kernel_rfl) (by kernel_rfl) (fun _ _ _ h => h) (Or.inl ⟨by rfl, ?_⟩) (by assumption) ?_
  · intro w9 hSw
    go_simp
  try simp only [Act.put, List.setIfInBounds_toArray, List.set_cons_zero, List.set_cons_succ]
  refine wpAnyH_take (i := 13) (oi := { dst := some 24, op := .makeFunc (.func 62) #[] #[.tmp 3], type := 89, pos := "bound.go:41", after := #[], guard := none }) (v := .func (.func 62) #[] #[.pointer (some ⟨w.heap.size, 0, none⟩)]) rfl (by kernel_rfl) (by kernel_rfl) (by kernel_rfl) (fun _ _ _ h => h) (Or.inl ⟨by rfl, ?_⟩) (by assumption) ?_
  · intro w9 hSw
    go_simp
  try simp only [Act.put, List.setIfInBounds_toArray, List.set_cons_zero, List.set_cons_succ]
  refine wpAnyH_take (i := 14) (oi := { dst := some 25, op := .load 89 (.tmp 5), type := 89, pos := "bound.go:41", after := #[], guard := none }) (v := .func (.func 58) #[] #[.pointer (some ⟨w.heap.size, 0, none⟩)]) rfl (by kernel_rfl) (by kernel_rfl) (by kernel_rfl) (fun _ _ _ h => h) (Or.inl ⟨by rfl, ?_⟩) (by assumption) ?_
  · intro w9 hSw
    (try dsimp only at hSw); go_simp
  try simp only [Act.put, List.setIfInBounds_toArray, List.set_cons_zero, List.set_cons_succ]
  refine wpAnyH_take (i := 15) (oi := { dst := some 26, op := .load 89 (.tmp 5), type := 89, pos := "bound.go:41", after := #[], guard := none }) (v := .func (.func 58) #[] #[.pointer (some ⟨w.heap.size, 0, none⟩)]) rfl (by kernel_rfl) (by kernel_rfl) (by kernel_rfl) (fun _ _ _ h => h) (Or.inl ⟨by rfl, ?_⟩) (by assumption) ?_
  · intro w9 hSw
    (try dsimp only at hSw); go_simp
  try simp only [Act.put, List.setIfInBounds_toArray, List.set_cons_zero, List.set_cons_succ]
  refine wpAnyH_ready (rs := [1, 17]) (by kernel_rfl) (by simp) ?_
  refine AllReadyH.cons (o := { dst := some 12, op := .call { callee := .value (.tmp 11), args := #[.const (.int .i64 4096)], argTypes := #[3] }, type := 89, pos := "bound.go:42", after := #[{ on := 0, ground := .data }], guard := none }) rfl (fun K hK => ?_) ?_
  ·
    go_simp
    go_at_call 59
    refine (just_calls _ _).mono ?_
    rintro r V1 ⟨rfl, hbx, hb⟩
    have hstV1 := hstV0.step hb
    generalize V0.heap.size = b1 at hbx ⊢
    refine hK.out _ _ hstV1.c (fun hHeld => ?_)
    clear hK K hb
    try simp only [Act.put, List.setIfInBounds_toArray, List.set_cons_zero, List.set_cons_succ]
    refine wpAnyH_ready (rs := [3, 17]) (by kernel_rfl) (by simp) ?_
    refine AllReadyH.cons (o := { dst := some 14, op := .call { callee := .value (.tmp 13), args := #[.const (.int .i64 2)], argTypes := #[3] }, type := 89, pos := "bound.go:43", after := #[{ on := 2, ground := .data }, { on := 1, ground := .chain }], guard := none }) rfl (fun K hK => ?_) ?_
    ·
      go_simp
      go_at_call 59
      refine (just_calls _ _).mono ?_
      rintro r V2 ⟨rfl, hbx, hb⟩
      have hstV2 := hstV1.step hb
      generalize V1.heap.size = b2 at hbx ⊢
      refine hK.out _ _ hstV2.c (fun hHeld => ?_)
      clear hK K hb
      try simp only [Act.put, List.setIfInBounds_toArray, List.set_cons_zero, List.set_cons_succ]
      refine wpAnyH_ready (rs := [5, 17]) (by kernel_rfl) (by simp) ?_
      refine AllReadyH.cons (o := { dst := some 16, op := .call { callee := .value (.tmp 15), args := #[.const (.int .i64 86000)], argTypes := #[3] }, type := 89, pos := "bound.go:44", after := #[{ on := 4, ground := .data }, { on := 3, ground := .chain }], guard := none }) rfl (fun K hK => ?_) ?_
      ·
        go_simp
        go_at_call 59
        refine (just_calls _ _).mono ?_
        rintro r V3 ⟨rfl, hbx, hb⟩
        have hstV3 := hstV2.step hb
        generalize V2.heap.size = b3 at hbx ⊢
        refine hK.out _ _ hstV3.c (fun hHeld => ?_)
        clear hK K hb
        try simp only [Act.put, List.setIfInBounds_toArray, List.set_cons_zero, List.set_cons_succ]
        refine wpAnyH_ready (rs := [9, 17]) (by kernel_rfl) (by simp) ?_
        refine AllReadyH.cons (o := { dst := some 20, op := .call { callee := .value (.tmp 19), args := #[.const (.int .i64 0)], argTypes := #[3] }, type := 89, pos := "bound.go:47", after := #[{ on := 8, ground := .data }, { on := 5, ground := .chain }], guard := none }) rfl (fun K hK => ?_) ?_
        ·
          go_simp
          go_at_call 59
          refine (just_calls _ _).mono ?_
          rintro r V4 ⟨rfl, hbx, hb⟩
          have hstV4 := hstV3.step hb
          generalize V3.heap.size = b4 at hbx ⊢
          refine hK.out _ _ hstV4.c (fun hHeld => ?_)
          clear hK K hb
          try simp only [Act.put, List.setIfInBounds_toArray, List.set_cons_zero, List.set_cons_succ]
          refine wpAnyH_ready (rs := [12, 17]) (by kernel_rfl) (by simp) ?_
          refine AllReadyH.cons (o := { dst := some 23, op := .call { callee := .value (.tmp 22), args := #[.const (.int .i64 1)], argTypes := #[3] }, type := 89, pos := "bound.go:49", after := #[{ on := 11, ground := .data }, { on := 9, ground := .chain }], guard := none }) rfl (fun K hK => ?_) ?_
          ·
            go_simp
            go_at_call 59
            refine (just_calls _ _).mono ?_
            rintro r V5 ⟨rfl, hbx, hb⟩
            have hstV5 := hstV4.step hb
            generalize V4.heap.size = b5 at hbx ⊢
            refine hK.out _ _ hstV5.c (fun hHeld => ?_)
            clear hK K hb
            try simp only [Act.put, List.setIfInBounds_toArray, List.set_cons_zero, List.set_cons_succ]
            refine wpAnyH_take (i := 16) (oi := { dst := some 27, op := .build 91 #[(1, .tmp 12), (2, .tmp 14), (3, .tmp 16), (4, .tmp 17), (5, .tmp 18), (6, .tmp 20), (7, .tmp 21), (8, .tmp 23), (9, .tmp 24), (10, .tmp 25), (11, .tmp 26)], type := 91, pos := "bound.go:41", after := #[{ on := 1, ground := .data }, { on := 3, ground := .data }, { on := 5, ground := .data }, { on := 6, ground := .data }, { on := 7, ground := .data }, { on := 9, ground := .data }, { on := 10, ground := .data }, { on := 12, ground := .data }, { on := 13, ground := .data }, { on := 14, ground := .data }, { on := 15, ground := .data }], guard := none }) (v := .agg #[.nilFunc, .func (.func 60) #[] #[.pointer (some ⟨b1, 0, none⟩)], .func (.func 60) #[] #[.pointer (some ⟨b2, 0, none⟩)], .func (.func 60) #[] #[.pointer (some ⟨b3, 0, none⟩)], .func (.func 61) #[] #[.pointer (some ⟨w.heap.size + 1, 0, none⟩)], .func (.func 58) #[] #[.pointer (some ⟨w.heap.size, 0, none⟩)], .func (.func 60) #[] #[.pointer (some ⟨b4, 0, none⟩)], .func (.func 58) #[] #[.pointer (some ⟨w.heap.size, 0, none⟩)], .func (.func 60) #[] #[.pointer (some ⟨b5, 0, none⟩)], .func (.func 62) #[] #[.pointer (some ⟨w.heap.size, 0, none⟩)], .func (.func 58) #[] #[.pointer (some ⟨w.heap.size, 0, none⟩)], .func (.func 58) #[] #[.pointer (some ⟨w.heap.size, 0, none⟩)]]) rfl (by kernel_rfl) (by kernel_rfl) (by kernel_rfl) (fun _ _ _ h => h) (Or.inl ⟨by rfl, ?_⟩) (by assumption) ?_
            · intro w9 hSw
              go_simp
            try simp only [Act.put, List.setIfInBounds_toArray, List.set_cons_zero, List.set_cons_succ]
            refine wpAnyH_ready (rs := [17]) (by kernel_rfl) (by simp) ?_
            refine AllReadyH.cons (o := { dst := some 7, op := .alloc 91, type := 0, pos := "bound.go:41", after := #[], guard := none }) rfl (fun K hK => ?_) AllReadyH.nil
            go_simp
            have hstV5a := hstV5.step ((Below.refl _ _).alloc (Nat.le_refl _) (.cells #[.nilFunc, .nilFunc, .nilFunc, .nilFunc, .nilFunc, .nilFunc, .nilFunc, .nilFunc, .nilFunc, .nilFunc, .nilFunc, .nilFunc] 91))
            have hG := Blk.new V5 91 #[.nilFunc, .nilFunc, .nilFunc, .nilFunc, .nilFunc, .nilFunc, .nilFunc, .nilFunc, .nilFunc, .nilFunc, .nilFunc, .nilFunc]
            have hblt := World.block_lt_of_cell? _ _ hbx
            dsimp only at hblt
            have hbx : (V5.alloc (.cells #[.nilFunc, .nilFunc, .nilFunc, .nilFunc, .nilFunc, .nilFunc, .nilFunc, .nilFunc, .nilFunc, .nilFunc, .nilFunc, .nilFunc] 91)).cell? ⟨b5, 0, none⟩ = some (.int .i64 1) := by rw [World.cell?_alloc_lt _ _ _ (World.block_lt_of_cell? _ _ hbx)]; exact hbx
            refine hK.out _ _ hstV5a.c (fun hHeld => ?_)
            clear hK K
            try simp only [Act.put, List.setIfInBounds_toArray, List.set_cons_zero, List.set_cons_succ]
            generalize V5.alloc (.cells #[.nilFunc, .nilFunc, .nilFunc, .nilFunc, .nilFunc, .nilFunc, .nilFunc, .nilFunc, .nilFunc, .nilFunc, .nilFunc, .nilFunc] 91) = V5a at hstV5a hG hbx hHeld ⊢
            have hgb := hstV5.size
            have hne : b5 ≠ V5.heap.size := by omega
            generalize V5.heap.size = gb at hG hgb hne ⊢
            refine wpAnyH_ready (rs := [18]) (by kernel_rfl) (by simp) ?_
            refine AllReadyH.cons (o := { dst := none, op := .store 91 (.tmp 7) (.tmp 27), type := 0, pos := "bound.go:41", after := #[{ on := 17, ground := .data }, { on := 16, ground := .data }, { on := 12, ground := .chain }, { on := 0, ground := .phase }, { on := 1, ground := .phase }, { on := 2, ground := .phase }, { on := 3, ground := .phase }, { on := 4, ground := .phase }, { on := 5, ground := .phase }, { on := 6, ground := .phase }, { on := 7, ground := .phase }, { on := 8, ground := .phase }, { on := 9, ground := .phase }, { on := 10, ground := .phase }, { on := 11, ground := .phase }, { on := 12, ground := .phase }, { on := 13, ground := .phase }, { on := 14, ground := .phase }, { on := 15, ground := .phase }, { on := 16, ground := .phase }, { on := 17, ground := .phase }], guard := none }) rfl (fun K hK => ?_) AllReadyH.nil
            rw [if_pos (by rfl)]
            refine wp_store_row 91 (.tmp 7) (.tmp 27) rfl gb #[.nilFunc, .func (.func 60) #[] #[.pointer (some ⟨b1, 0, none⟩)], .func (.func 60) #[] #[.pointer (some ⟨b2, 0, none⟩)], .func (.func 60) #[] #[.pointer (some ⟨b3, 0, none⟩)], .func (.func 61) #[] #[.pointer (some ⟨w.heap.size + 1, 0, none⟩)], .func (.func 58) #[] #[.pointer (some ⟨w.heap.size, 0, none⟩)], .func (.func 60) #[] #[.pointer (some ⟨b4, 0, none⟩)], .func (.func 58) #[] #[.pointer (some ⟨w.heap.size, 0, none⟩)], .func (.func 60) #[] #[.pointer (some ⟨b5, 0, none⟩)], .func (.func 62) #[] #[.pointer (some ⟨w.heap.size, 0, none⟩)], .func (.func 58) #[] #[.pointer (some ⟨w.heap.size, 0, none⟩)], .func (.func 58) #[] #[.pointer (some ⟨w.heap.size, 0, none⟩)]] rfl rfl 91 _ hG info_rr rfl (by simp [Value.oneCell']) ?_
            have hstz := hstV5a.row hgb #[.nilFunc, .func (.func 60) #[] #[.pointer (some ⟨b1, 0, none⟩)], .func (.func 60) #[] #[.pointer (some ⟨b2, 0, none⟩)], .func (.func 60) #[] #[.pointer (some ⟨b3, 0, none⟩)], .func (.func 61) #[] #[.pointer (some ⟨w.heap.size + 1, 0, none⟩)], .func (.func 58) #[] #[.pointer (some ⟨w.heap.size, 0, none⟩)], .func (.func 60) #[] #[.pointer (some ⟨b4, 0, none⟩)], .func (.func 58) #[] #[.pointer (some ⟨w.heap.size, 0, none⟩)], .func (.func 60) #[] #[.pointer (some ⟨b5, 0, none⟩)], .func (.func 62) #[] #[.pointer (some ⟨w.heap.size, 0, none⟩)], .func (.func 58) #[] #[.pointer (some ⟨w.heap.size, 0, none⟩)], .func (.func 58) #[] #[.pointer (some ⟨w.heap.size, 0, none⟩)]]
            have hGz := hG.row #[.nilFunc, .func (.func 60) #[] #[.pointer (some ⟨b1, 0, none⟩)], .func (.func 60) #[] #[.pointer (some ⟨b2, 0, none⟩)], .func (.func 60) #[] #[.pointer (some ⟨b3, 0, none⟩)], .func (.func 61) #[] #[.pointer (some ⟨w.heap.size + 1, 0, none⟩)], .func (.func 58) #[] #[.pointer (some ⟨w.heap.size, 0, none⟩)], .func (.func 60) #[] #[.pointer (some ⟨b4, 0, none⟩)], .func (.func 58) #[] #[.pointer (some ⟨w.heap.size, 0, none⟩)], .func (.func 60) #[] #[.pointer (some ⟨b5, 0, none⟩)], .func (.func 62) #[] #[.pointer (some ⟨w.heap.size, 0, none⟩)], .func (.func 58) #[] #[.pointer (some ⟨w.heap.size, 0, none⟩)], .func (.func 58) #[] #[.pointer (some ⟨w.heap.size, 0, none⟩)]]
            have hbz : (V5a.setRow gb #[.nilFunc, .func (.func 60) #[] #[.pointer (some ⟨b1, 0, none⟩)], .func (.func 60) #[] #[.pointer (some ⟨b2, 0, none⟩)], .func (.func 60) #[] #[.pointer (some ⟨b3, 0, none⟩)], .func (.func 61) #[] #[.pointer (some ⟨w.heap.size + 1, 0, none⟩)], .func (.func 58) #[] #[.pointer (some ⟨w.heap.size, 0, none⟩)], .func (.func 60) #[] #[.pointer (some ⟨b4, 0, none⟩)], .func (.func 58) #[] #[.pointer (some ⟨w.heap.size, 0, none⟩)], .func (.func 60) #[] #[.pointer (some ⟨b5, 0, none⟩)], .func (.func 62) #[] #[.pointer (some ⟨w.heap.size, 0, none⟩)], .func (.func 58) #[] #[.pointer (some ⟨w.heap.size, 0, none⟩)], .func (.func 58) #[] #[.pointer (some ⟨w.heap.size, 0, none⟩)]]).cell? ⟨b5, 0, none⟩ = some (.int .i64 1) := by
              rw [World.cell?_of_block (w := V5a) (by simp only [World.setRow, Array.getElem?_modify]; rw [if_neg (by omega)])]
              exact hbx
            refine hK.out _ _ hstz.c (fun hHeld => ?_)
            clear hK K
            try simp only [Act.put, List.setIfInBounds_toArray, List.set_cons_zero, List.set_cons_succ]
            refine wpAnyH_done (by kernel_rfl) ?_ _
            clear hG hbx hstV5a
            generalize (V5a.setRow gb #[.nilFunc, .func (.func 60) #[] #[.pointer (some ⟨b1, 0, none⟩)], .func (.func 60) #[] #[.pointer (some ⟨b2, 0, none⟩)], .func (.func 60) #[] #[.pointer (some ⟨b3, 0, none⟩)], .func (.func 61) #[] #[.pointer (some ⟨w.heap.size + 1, 0, none⟩)], .func (.func 58) #[] #[.pointer (some ⟨w.heap.size, 0, none⟩)], .func (.func 60) #[] #[.pointer (some ⟨b4, 0, none⟩)], .func (.func 58) #[] #[.pointer (some ⟨w.heap.size, 0, none⟩)], .func (.func 60) #[] #[.pointer (some ⟨b5, 0, none⟩)], .func (.func 62) #[] #[.pointer (some ⟨w.heap.size, 0, none⟩)], .func (.func 58) #[] #[.pointer (some ⟨w.heap.size, 0, none⟩)], .func (.func 58) #[] #[.pointer (some ⟨w.heap.size, 0, none⟩)]]) = Wz at hstz hGz hbz hHeld ⊢
            clear hHeld
            rcases hp with rfl | rfl | rfl
            · have hc := hGz.cell 8
              simp at hc
              go_wp2_with fail
              refine (just1_calls 1 b5 _ hbz).mono ?_
              rintro r W8 ⟨rfl, rfl⟩
              go_wp2
              go_ret
              exact ⟨rfl, hstz.bel⟩
            · have hc := hGz.cell 10
              simp at hc
              go_wp2_with fail
              refine (code_calls w.heap.size _ hstz.n).mono ?_
              rintro r W8 ⟨rfl, rfl⟩
              go_wp2
              go_ret
              exact ⟨rfl, hstz.bel⟩
            · have hc := hGz.cell 11
              simp at hc
              go_wp2_with fail
              refine (code_calls w.heap.size _ hstz.n).mono ?_
              rintro r W8 ⟨rfl, rfl⟩
              go_wp2
              go_ret
              exact ⟨rfl, hstz.bel⟩
          refine AllReadyH.cons (o := { dst := some 7, op := .alloc 91, type := 0, pos := "bound.go:41", after := #[], guard := none }) rfl (fun K hK => ?_) AllReadyH.nil
          go_simp
          have hstV4a := hstV4.step ((Below.refl _ _).alloc (Nat.le_refl _) (.cells #[.nilFunc, .nilFunc, .nilFunc, .nilFunc, .nilFunc, .nilFunc, .nilFunc, .nilFunc, .nilFunc, .nilFunc, .nilFunc, .nilFunc] 91))
          have hG := Blk.new V4 91 #[.nilFunc, .nilFunc, .nilFunc, .nilFunc, .nilFunc, .nilFunc, .nilFunc, .nilFunc, .nilFunc, .nilFunc, .nilFunc, .nilFunc]
          have hblt := World.block_lt_of_cell? _ _ hbx
          dsimp only at hblt
          have hbx : (V4.alloc (.cells #[.nilFunc, .nilFunc, .nilFunc, .nilFunc, .nilFunc, .nilFunc, .nilFunc, .nilFunc, .nilFunc, .nilFunc, .nilFunc, .nilFunc] 91)).cell? ⟨b4, 0, none⟩ = some (.int .i64 0) := by rw [World.cell?_alloc_lt _ _ _ (World.block_lt_of_cell? _ _ hbx)]; exact hbx
          refine hK.out _ _ hstV4a.c (fun hHeld => ?_)
          clear hK K
          try simp only [Act.put, List.setIfInBounds_toArray, List.set_cons_zero, List.set_cons_succ]
          generalize V4.alloc (.cells #[.nilFunc, .nilFunc, .nilFunc, .nilFunc, .nilFunc, .nilFunc, .nilFunc, .nilFunc, .nilFunc, .nilFunc, .nilFunc, .nilFunc] 91) = V4a at hstV4a hG hbx hHeld ⊢
          have hgb := hstV4.size
          generalize V4.heap.size = gb at hG hgb ⊢
          refine wpAnyH_ready (rs := [12]) (by kernel_rfl) (by simp) ?_
          refine AllReadyH.cons (o := { dst := some 23, op := .call { callee := .value (.tmp 22), args := #[.const (.int .i64 1)], argTypes := #[3] }, type := 89, pos := "bound.go:49", after := #[{ on := 11, ground := .data }, { on := 9, ground := .chain }], guard := none }) rfl (fun K hK => ?_) AllReadyH.nil
          go_simp
          go_at_call 59
          refine (just_calls _ _).mono ?_
          rintro r V5a ⟨rfl, hbx, hb⟩
          have hstV5a := hstV4a.step hb
          have hglt := hG.lt
          have hG := hG.below hb hG.lt
          have hne : V4a.heap.size ≠ gb := by omega
          generalize V4a.heap.size = b5 at hbx hne ⊢
          refine hK.out _ _ hstV5a.c (fun hHeld => ?_)
          clear hK K hb
          try simp only [Act.put, List.setIfInBounds_toArray, List.set_cons_zero, List.set_cons_succ]
          refine wpAnyH_take (i := 16) (oi := { dst := some 27, op := .build 91 #[(1, .tmp 12), (2, .tmp 14), (3, .tmp 16), (4, .tmp 17), (5, .tmp 18), (6, .tmp 20), (7, .tmp 21), (8, .tmp 23), (9, .tmp 24), (10, .tmp 25), (11, .tmp 26)], type := 91, pos := "bound.go:41", after := #[{ on := 1, ground := .data }, { on := 3, ground := .data }, { on := 5, ground := .data }, { on := 6, ground := .data }, { on := 7, ground := .data }, { on := 9, ground := .data }, { on := 10, ground := .data }, { on := 12, ground := .data }, { on := 13, ground := .data }, { on := 14, ground := .data }, { on := 15, ground := .data }], guard := none }) (v := .agg #[.nilFunc, .func (.func 60) #[] #[.pointer (some ⟨b1, 0, none⟩)], .func (.func 60) #[] #[.pointer (some ⟨b2, 0, none⟩)], .func (.func 60) #[] #[.pointer (some ⟨b3, 0, none⟩)], .func (.func 61) #[] #[.pointer (some ⟨w.heap.size + 1, 0, none⟩)], .func (.func 58) #[] #[.pointer (some ⟨w.heap.size, 0, none⟩)], .func (.func 60) #[] #[.pointer (some ⟨b4, 0, none⟩)], .func (.func 58) #[] #[.pointer (some ⟨w.heap.size, 0, none⟩)], .func (.func 60) #[] #[.pointer (some ⟨b5, 0, none⟩)], .func (.func 62) #[] #[.pointer (some ⟨w.heap.size, 0, none⟩)], .func (.func 58) #[] #[.pointer (some ⟨w.heap.size, 0, none⟩)], .func (.func 58) #[] #[.pointer (some ⟨w.heap.size, 0, none⟩)]]) rfl (by kernel_rfl) (by kernel_rfl) (by kernel_rfl) (fun _ _ _ h => h) (Or.inl ⟨by rfl, ?_⟩) (by assumption) ?_
          · intro w9 hSw
            go_simp
          try simp only [Act.put, List.setIfInBounds_toArray, List.set_cons_zero, List.set_cons_succ]
          refine wpAnyH_ready (rs := [18]) (by kernel_rfl) (by simp) ?_
          refine AllReadyH.cons (o := { dst := none, op := .store 91 (.tmp 7) (.tmp 27), type := 0, pos := "bound.go:41", after := #[{ on := 17, ground := .data }, { on := 16, ground := .data }, { on := 12, ground := .chain }, { on := 0, ground := .phase }, { on := 1, ground := .phase }, { on := 2, ground := .phase }, { on := 3, ground := .phase }, { on := 4, ground := .phase }, { on := 5, ground := .phase }, { on := 6, ground := .phase }, { on := 7, ground := .phase }, { on := 8, ground := .phase }, { on := 9, ground := .phase }, { on := 10, ground := .phase }, { on := 11, ground := .phase }, { on := 12, ground := .phase }, { on := 13, ground := .phase }, { on := 14, ground := .phase }, { on := 15, ground := .phase }, { on := 16, ground := .phase }, { on := 17, ground := .phase }], guard := none }) rfl (fun K hK => ?_) AllReadyH.nil
          rw [if_pos (by rfl)]
          refine wp_store_row 91 (.tmp 7) (.tmp 27) rfl gb #[.nilFunc, .func (.func 60) #[] #[.pointer (some ⟨b1, 0, none⟩)], .func (.func 60) #[] #[.pointer (some ⟨b2, 0, none⟩)], .func (.func 60) #[] #[.pointer (some ⟨b3, 0, none⟩)], .func (.func 61) #[] #[.pointer (some ⟨w.heap.size + 1, 0, none⟩)], .func (.func 58) #[] #[.pointer (some ⟨w.heap.size, 0, none⟩)], .func (.func 60) #[] #[.pointer (some ⟨b4, 0, none⟩)], .func (.func 58) #[] #[.pointer (some ⟨w.heap.size, 0, none⟩)], .func (.func 60) #[] #[.pointer (some ⟨b5, 0, none⟩)], .func (.func 62) #[] #[.pointer (some ⟨w.heap.size, 0, none⟩)], .func (.func 58) #[] #[.pointer (some ⟨w.heap.size, 0, none⟩)], .func (.func 58) #[] #[.pointer (some ⟨w.heap.size, 0, none⟩)]] rfl rfl 91 _ hG info_rr rfl (by simp [Value.oneCell']) ?_
          have hstz := hstV5a.row hgb #[.nilFunc, .func (.func 60) #[] #[.pointer (some ⟨b1, 0, none⟩)], .func (.func 60) #[] #[.pointer (some ⟨b2, 0, none⟩)], .func (.func 60) #[] #[.pointer (some ⟨b3, 0, none⟩)], .func (.func 61) #[] #[.pointer (some ⟨w.heap.size + 1, 0, none⟩)], .func (.func 58) #[] #[.pointer (some ⟨w.heap.size, 0, none⟩)], .func (.func 60) #[] #[.pointer (some ⟨b4, 0, none⟩)], .func (.func 58) #[] #[.pointer (some ⟨w.heap.size, 0, none⟩)], .func (.func 60) #[] #[.pointer (some ⟨b5, 0, none⟩)], .func (.func 62) #[] #[.pointer (some ⟨w.heap.size, 0, none⟩)], .func (.func 58) #[] #[.pointer (some ⟨w.heap.size, 0, none⟩)], .func (.func 58) #[] #[.pointer (some ⟨w.heap.size, 0, none⟩)]]
          have hGz := hG.row #[.nilFunc, .func (.func 60) #[] #[.pointer (some ⟨b1, 0, none⟩)], .func (.func 60) #[] #[.pointer (some ⟨b2, 0, none⟩)], .func (.func 60) #[] #[.pointer (some ⟨b3, 0, none⟩)], .func (.func 61) #[] #[.pointer (some ⟨w.heap.size + 1, 0, none⟩)], .func (.func 58) #[] #[.pointer (some ⟨w.heap.size, 0, none⟩)], .func (.func 60) #[] #[.pointer (some ⟨b4, 0, none⟩)], .func (.func 58) #[] #[.pointer (some ⟨w.heap.size, 0, none⟩)], .func (.func 60) #[] #[.pointer (some ⟨b5, 0, none⟩)], .func (.func 62) #[] #[.pointer (some ⟨w.heap.size, 0, none⟩)], .func (.func 58) #[] #[.pointer (some ⟨w.heap.size, 0, none⟩)], .func (.func 58) #[] #[.pointer (some ⟨w.heap.size, 0, none⟩)]]
          have hbz : (V5a.setRow gb #[.nilFunc, .func (.func 60) #[] #[.pointer (some ⟨b1, 0, none⟩)], .func (.func 60) #[] #[.pointer (some ⟨b2, 0, none⟩)], .func (.func 60) #[] #[.pointer (some ⟨b3, 0, none⟩)], .func (.func 61) #[] #[.pointer (some ⟨w.heap.size + 1, 0, none⟩)], .func (.func 58) #[] #[.pointer (some ⟨w.heap.size, 0, none⟩)], .func (.func 60) #[] #[.pointer (some ⟨b4, 0, none⟩)], .func (.func 58) #[] #[.pointer (some ⟨w.heap.size, 0, none⟩)], .func (.func 60) #[] #[.pointer (some ⟨b5, 0, none⟩)], .func (.func 62) #[] #[.pointer (some ⟨w.heap.size, 0, none⟩)], .func (.func 58) #[] #[.pointer (some ⟨w.heap.size, 0, none⟩)], .func (.func 58) #[] #[.pointer (some ⟨w.heap.size, 0, none⟩)]]).cell? ⟨b5, 0, none⟩ = some (.int .i64 1) := by
            rw [World.cell?_of_block (w := V5a) (by simp only [World.setRow, Array.getElem?_modify]; rw [if_neg (by omega)])]
            exact hbx
          refine hK.out _ _ hstz.c (fun hHeld => ?_)
          clear hK K
          try simp only [Act.put, List.setIfInBounds_toArray, List.set_cons_zero, List.set_cons_succ]
          refine wpAnyH_done (by kernel_rfl) ?_ _
          clear hG hbx hstV5a
          generalize (V5a.setRow gb #[.nilFunc, .func (.func 60) #[] #[.pointer (some ⟨b1, 0, none⟩)], .func (.func 60) #[] #[.pointer (some ⟨b2, 0, none⟩)], .func (.func 60) #[] #[.pointer (some ⟨b3, 0, none⟩)], .func (.func 61) #[] #[.pointer (some ⟨w.heap.size + 1, 0, none⟩)], .func (.func 58) #[] #[.pointer (some ⟨w.heap.size, 0, none⟩)], .func (.func 60) #[] #[.pointer (some ⟨b4, 0, none⟩)], .func (.func 58) #[] #[.pointer (some ⟨w.heap.size, 0, none⟩)], .func (.func 60) #[] #[.pointer (some ⟨b5, 0, none⟩)], .func (.func 62) #[] #[.pointer (some ⟨w.heap.size, 0, none⟩)], .func (.func 58) #[] #[.pointer (some ⟨w.heap.size, 0, none⟩)], .func (.func 58) #[] #[.pointer (some ⟨w.heap.size, 0, none⟩)]]) = Wz at hstz hGz hbz hHeld ⊢
          clear hHeld
          rcases hp with rfl | rfl | rfl
          · have hc := hGz.cell 8
            simp at hc
            go_wp2_with fail
            refine (just1_calls 1 b5 _ hbz).mono ?_
            rintro r W8 ⟨rfl, rfl⟩
            go_wp2
            go_ret
            exact ⟨rfl, hstz.bel⟩
          · have hc := hGz.cell 10
            simp at hc
            go_wp2_with fail
            refine (code_calls w.heap.size _ hstz.n).mono ?_
            rintro r W8 ⟨rfl, rfl⟩
            go_wp2
            go_ret
            exact ⟨rfl, hstz.bel⟩
          · have hc := hGz.cell 11
            simp at hc
            go_wp2_with fail
            refine (code_calls w.heap.size _ hstz.n).mono ?_
            rintro r W8 ⟨rfl, rfl⟩
            go_wp2
            go_ret
            exact ⟨rfl, hstz.bel⟩
        refine AllReadyH.cons (o := { dst := some 7, op := .alloc 91, type := 0, pos := "bound.go:41", after := #[], guard := none }) rfl (fun K hK => ?_) AllReadyH.nil
        go_simp
        have hstV3a := hstV3.step ((Below.refl _ _).alloc (Nat.le_refl _) (.cells #[.nilFunc, .nilFunc, .nilFunc, .nilFunc, .nilFunc, .nilFunc, .nilFunc, .nilFunc, .nilFunc, .nilFunc, .nilFunc, .nilFunc] 91))
        have hG := Blk.new V3 91 #[.nilFunc, .nilFunc, .nilFunc, .nilFunc, .nilFunc, .nilFunc, .nilFunc, .nilFunc, .nilFunc, .nilFunc, .nilFunc, .nilFunc]
        have hblt := World.block_lt_of_cell? _ _ hbx
        dsimp only at hblt
        have hbx : (V3.alloc (.cells #[.nilFunc, .nilFunc, .nilFunc, .nilFunc, .nilFunc, .nilFunc, .nilFunc, .nilFunc, .nilFunc, .nilFunc, .nilFunc, .nilFunc] 91)).cell? ⟨b3, 0, none⟩ = some (.int .i64 86000) := by rw [World.cell?_alloc_lt _ _ _ (World.block_lt_of_cell? _ _ hbx)]; exact hbx
        refine hK.out _ _ hstV3a.c (fun hHeld => ?_)
        clear hK K
        try simp only [Act.put, List.setIfInBounds_toArray, List.set_cons_zero, List.set_cons_succ]
        generalize V3.alloc (.cells #[.nilFunc, .nilFunc, .nilFunc, .nilFunc, .nilFunc, .nilFunc, .nilFunc, .nilFunc, .nilFunc, .nilFunc, .nilFunc, .nilFunc] 91) = V3a at hstV3a hG hbx hHeld ⊢
        have hgb := hstV3.size
        generalize V3.heap.size = gb at hG hgb ⊢
        refine wpAnyH_ready (rs := [9]) (by kernel_rfl) (by simp) ?_
        refine AllReadyH.cons (o := { dst := some 20, op := .call { callee := .value (.tmp 19), args := #[.const (.int .i64 0)], argTypes := #[3] }, type := 89, pos := "bound.go:47", after := #[{ on := 8, ground := .data }, { on := 5, ground := .chain }], guard := none }) rfl (fun K hK => ?_) AllReadyH.nil
        go_simp
        go_at_call 59
        refine (just_calls _ _).mono ?_
        rintro r V4a ⟨rfl, hbx, hb⟩
        have hstV4a := hstV3a.step hb
        have hglt := hG.lt
        have hG := hG.below hb hG.lt
        generalize V3a.heap.size = b4 at hbx ⊢
        refine hK.out _ _ hstV4a.c (fun hHeld => ?_)
        clear hK K hb
        try simp only [Act.put, List.setIfInBounds_toArray, List.set_cons_zero, List.set_cons_succ]
        refine wpAnyH_ready (rs := [12]) (by kernel_rfl) (by simp) ?_
        refine AllReadyH.cons (o := { dst := some 23, op := .call { callee := .value (.tmp 22), args := #[.const (.int .i64 1)], argTypes := #[3] }, type := 89, pos := "bound.go:49", after := #[{ on := 11, ground := .data }, { on := 9, ground := .chain }], guard := none }) rfl (fun K hK => ?_) AllReadyH.nil
        go_simp
        go_at_call 59
        refine (just_calls _ _).mono ?_
        rintro r V5a ⟨rfl, hbx, hb⟩
        have hstV5a := hstV4a.step hb
        have hglt := hG.lt
        have hG := hG.below hb hG.lt
        have hne : V4a.heap.size ≠ gb := by omega
        generalize V4a.heap.size = b5 at hbx hne ⊢
        refine hK.out _ _ hstV5a.c (fun hHeld => ?_)
        clear hK K hb
        try simp only [Act.put, List.setIfInBounds_toArray, List.set_cons_zero, List.set_cons_succ]
        refine wpAnyH_take (i := 16) (oi := { dst := some 27, op := .build 91 #[(1, .tmp 12), (2, .tmp 14), (3, .tmp 16), (4, .tmp 17), (5, .tmp 18), (6, .tmp 20), (7, .tmp 21), (8, .tmp 23), (9, .tmp 24), (10, .tmp 25), (11, .tmp 26)], type := 91, pos := "bound.go:41", after := #[{ on := 1, ground := .data }, { on := 3, ground := .data }, { on := 5, ground := .data }, { on := 6, ground := .data }, { on := 7, ground := .data }, { on := 9, ground := .data }, { on := 10, ground := .data }, { on := 12, ground := .data }, { on := 13, ground := .data }, { on := 14, ground := .data }, { on := 15, ground := .data }], guard := none }) (v := .agg #[.nilFunc, .func (.func 60) #[] #[.pointer (some ⟨b1, 0, none⟩)], .func (.func 60) #[] #[.pointer (some ⟨b2, 0, none⟩)], .func (.func 60) #[] #[.pointer (some ⟨b3, 0, none⟩)], .func (.func 61) #[] #[.pointer (some ⟨w.heap.size + 1, 0, none⟩)], .func (.func 58) #[] #[.pointer (some ⟨w.heap.size, 0, none⟩)], .func (.func 60) #[] #[.pointer (some ⟨b4, 0, none⟩)], .func (.func 58) #[] #[.pointer (some ⟨w.heap.size, 0, none⟩)], .func (.func 60) #[] #[.pointer (some ⟨b5, 0, none⟩)], .func (.func 62) #[] #[.pointer (some ⟨w.heap.size, 0, none⟩)], .func (.func 58) #[] #[.pointer (some ⟨w.heap.size, 0, none⟩)], .func (.func 58) #[] #[.pointer (some ⟨w.heap.size, 0, none⟩)]]) rfl (by kernel_rfl) (by kernel_rfl) (by kernel_rfl) (fun _ _ _ h => h) (Or.inl ⟨by rfl, ?_⟩) (by assumption) ?_
        · intro w9 hSw
          go_simp
        try simp only [Act.put, List.setIfInBounds_toArray, List.set_cons_zero, List.set_cons_succ]
        refine wpAnyH_ready (rs := [18]) (by kernel_rfl) (by simp) ?_
        refine AllReadyH.cons (o := { dst := none, op := .store 91 (.tmp 7) (.tmp 27), type := 0, pos := "bound.go:41", after := #[{ on := 17, ground := .data }, { on := 16, ground := .data }, { on := 12, ground := .chain }, { on := 0, ground := .phase }, { on := 1, ground := .phase }, { on := 2, ground := .phase }, { on := 3, ground := .phase }, { on := 4, ground := .phase }, { on := 5, ground := .phase }, { on := 6, ground := .phase }, { on := 7, ground := .phase }, { on := 8, ground := .phase }, { on := 9, ground := .phase }, { on := 10, ground := .phase }, { on := 11, ground := .phase }, { on := 12, ground := .phase }, { on := 13, ground := .phase }, { on := 14, ground := .phase }, { on := 15, ground := .phase }, { on := 16, ground := .phase }, { on := 17, ground := .phase }], guard := none }) rfl (fun K hK => ?_) AllReadyH.nil
        rw [if_pos (by rfl)]
        refine wp_store_row 91 (.tmp 7) (.tmp 27) rfl gb #[.nilFunc, .func (.func 60) #[] #[.pointer (some ⟨b1, 0, none⟩)], .func (.func 60) #[] #[.pointer (some ⟨b2, 0, none⟩)], .func (.func 60) #[] #[.pointer (some ⟨b3, 0, none⟩)], .func (.func 61) #[] #[.pointer (some ⟨w.heap.size + 1, 0, none⟩)], .func (.func 58) #[] #[.pointer (some ⟨w.heap.size, 0, none⟩)], .func (.func 60) #[] #[.pointer (some ⟨b4, 0, none⟩)], .func (.func 58) #[] #[.pointer (some ⟨w.heap.size, 0, none⟩)], .func (.func 60) #[] #[.pointer (some ⟨b5, 0, none⟩)], .func (.func 62) #[] #[.pointer (some ⟨w.heap.size, 0, none⟩)], .func (.func 58) #[] #[.pointer (some ⟨w.heap.size, 0, none⟩)], .func (.func 58) #[] #[.pointer (some ⟨w.heap.size, 0, none⟩)]] rfl rfl 91 _ hG info_rr rfl (by simp [Value.oneCell']) ?_
        have hstz := hstV5a.row hgb #[.nilFunc, .func (.func 60) #[] #[.pointer (some ⟨b1, 0, none⟩)], .func (.func 60) #[] #[.pointer (some ⟨b2, 0, none⟩)], .func (.func 60) #[] #[.pointer (some ⟨b3, 0, none⟩)], .func (.func 61) #[] #[.pointer (some ⟨w.heap.size + 1, 0, none⟩)], .func (.func 58) #[] #[.pointer (some ⟨w.heap.size, 0, none⟩)], .func (.func 60) #[] #[.pointer (some ⟨b4, 0, none⟩)], .func (.func 58) #[] #[.pointer (some ⟨w.heap.size, 0, none⟩)], .func (.func 60) #[] #[.pointer (some ⟨b5, 0, none⟩)], .func (.func 62) #[] #[.pointer (some ⟨w.heap.size, 0, none⟩)], .func (.func 58) #[] #[.pointer (some ⟨w.heap.size, 0, none⟩)], .func (.func 58) #[] #[.pointer (some ⟨w.heap.size, 0, none⟩)]]
        have hGz := hG.row #[.nilFunc, .func (.func 60) #[] #[.pointer (some ⟨b1, 0, none⟩)], .func (.func 60) #[] #[.pointer (some ⟨b2, 0, none⟩)], .func (.func 60) #[] #[.pointer (some ⟨b3, 0, none⟩)], .func (.func 61) #[] #[.pointer (some ⟨w.heap.size + 1, 0, none⟩)], .func (.func 58) #[] #[.pointer (some ⟨w.heap.size, 0, none⟩)], .func (.func 60) #[] #[.pointer (some ⟨b4, 0, none⟩)], .func (.func 58) #[] #[.pointer (some ⟨w.heap.size, 0, none⟩)], .func (.func 60) #[] #[.pointer (some ⟨b5, 0, none⟩)], .func (.func 62) #[] #[.pointer (some ⟨w.heap.size, 0, none⟩)], .func (.func 58) #[] #[.pointer (some ⟨w.heap.size, 0, none⟩)], .func (.func 58) #[] #[.pointer (some ⟨w.heap.size, 0, none⟩)]]
        have hbz : (V5a.setRow gb #[.nilFunc, .func (.func 60) #[] #[.pointer (some ⟨b1, 0, none⟩)], .func (.func 60) #[] #[.pointer (some ⟨b2, 0, none⟩)], .func (.func 60) #[] #[.pointer (some ⟨b3, 0, none⟩)], .func (.func 61) #[] #[.pointer (some ⟨w.heap.size + 1, 0, none⟩)], .func (.func 58) #[] #[.pointer (some ⟨w.heap.size, 0, none⟩)], .func (.func 60) #[] #[.pointer (some ⟨b4, 0, none⟩)], .func (.func 58) #[] #[.pointer (some ⟨w.heap.size, 0, none⟩)], .func (.func 60) #[] #[.pointer (some ⟨b5, 0, none⟩)], .func (.func 62) #[] #[.pointer (some ⟨w.heap.size, 0, none⟩)], .func (.func 58) #[] #[.pointer (some ⟨w.heap.size, 0, none⟩)], .func (.func 58) #[] #[.pointer (some ⟨w.heap.size, 0, none⟩)]]).cell? ⟨b5, 0, none⟩ = some (.int .i64 1) := by
          rw [World.cell?_of_block (w := V5a) (by simp only [World.setRow, Array.getElem?_modify]; rw [if_neg (by omega)])]
          exact hbx
        refine hK.out _ _ hstz.c (fun hHeld => ?_)
        clear hK K
        try simp only [Act.put, List.setIfInBounds_toArray, List.set_cons_zero, List.set_cons_succ]
        refine wpAnyH_done (by kernel_rfl) ?_ _
        clear hG hbx hstV5a
        generalize (V5a.setRow gb #[.nilFunc, .func (.func 60) #[] #[.pointer (some ⟨b1, 0, none⟩)], .func (.func 60) #[] #[.pointer (some ⟨b2, 0, none⟩)], .func (.func 60) #[] #[.pointer (some ⟨b3, 0, none⟩)], .func (.func 61) #[] #[.pointer (some ⟨w.heap.size + 1, 0, none⟩)], .func (.func 58) #[] #[.pointer (some ⟨w.heap.size, 0, none⟩)], .func (.func 60) #[] #[.pointer (some ⟨b4, 0, none⟩)], .func (.func 58) #[] #[.pointer (some ⟨w.heap.size, 0, none⟩)], .func (.func 60) #[] #[.pointer (some ⟨b5, 0, none⟩)], .func (.func 62) #[] #[.pointer (some ⟨w.heap.size, 0, none⟩)], .func (.func 58) #[] #[.pointer (some ⟨w.heap.size, 0, none⟩)], .func (.func 58) #[] #[.pointer (some ⟨w.heap.size, 0, none⟩)]]) = Wz at hstz hGz hbz hHeld ⊢
        clear hHeld
        rcases hp with rfl | rfl | rfl
        · have hc := hGz.cell 8
          simp at hc
          go_wp2_with fail
          refine (just1_calls 1 b5 _ hbz).mono ?_
          rintro r W8 ⟨rfl, rfl⟩
          go_wp2
          go_ret
          exact ⟨rfl, hstz.bel⟩
        · have hc := hGz.cell 10
          simp at hc
          go_wp2_with fail
          refine (code_calls w.heap.size _ hstz.n).mono ?_
          rintro r W8 ⟨rfl, rfl⟩
          go_wp2
          go_ret
          exact ⟨rfl, hstz.bel⟩
        · have hc := hGz.cell 11
          simp at hc
          go_wp2_with fail
          refine (code_calls w.heap.size _ hstz.n).mono ?_
          rintro r W8 ⟨rfl, rfl⟩
          go_wp2
          go_ret
          exact ⟨rfl, hstz.bel⟩
      refine AllReadyH.cons (o := { dst := some 7, op := .alloc 91, type := 0, pos := "bound.go:41", after := #[], guard := none }) rfl (fun K hK => ?_) AllReadyH.nil
      go_simp
      have hstV2a := hstV2.step ((Below.refl _ _).alloc (Nat.le_refl _) (.cells #[.nilFunc, .nilFunc, .nilFunc, .nilFunc, .nilFunc, .nilFunc, .nilFunc, .nilFunc, .nilFunc, .nilFunc, .nilFunc, .nilFunc] 91))
      have hG := Blk.new V2 91 #[.nilFunc, .nilFunc, .nilFunc, .nilFunc, .nilFunc, .nilFunc, .nilFunc, .nilFunc, .nilFunc, .nilFunc, .nilFunc, .nilFunc]
      have hblt := World.block_lt_of_cell? _ _ hbx
      dsimp only at hblt
      have hbx : (V2.alloc (.cells #[.nilFunc, .nilFunc, .nilFunc, .nilFunc, .nilFunc, .nilFunc, .nilFunc, .nilFunc, .nilFunc, .nilFunc, .nilFunc, .nilFunc] 91)).cell? ⟨b2, 0, none⟩ = some (.int .i64 2) := by rw [World.cell?_alloc_lt _ _ _ (World.block_lt_of_cell? _ _ hbx)]; exact hbx
      refine hK.out _ _ hstV2a.c (fun hHeld => ?_)
      clear hK K
      try simp only [Act.put, List.setIfInBounds_toArray, List.set_cons_zero, List.set_cons_succ]
      generalize V2.alloc (.cells #[.nilFunc, .nilFunc, .nilFunc, .nilFunc, .nilFunc, .nilFunc, .nilFunc, .nilFunc, .nilFunc, .nilFunc, .nilFunc, .nilFunc] 91) = V2a at hstV2a hG hbx hHeld ⊢
      have hgb := hstV2.size
      generalize V2.heap.size = gb at hG hgb ⊢
      refine wpAnyH_ready (rs := [5]) (by kernel_rfl) (by simp) ?_
      refine AllReadyH.cons (o := { dst := some 16, op := .call { callee := .value (.tmp 15), args := #[.const (.int .i64 86000)], argTypes := #[3] }, type := 89, pos := "bound.go:44", after := #[{ on := 4, ground := .data }, { on := 3, ground := .chain }], guard := none }) rfl (fun K hK => ?_) AllReadyH.nil
      go_simp
      go_at_call 59
      refine (just_calls _ _).mono ?_
      rintro r V3a ⟨rfl, hbx, hb⟩
      have hstV3a := hstV2a.step hb
      have hglt := hG.lt
      have hG := hG.below hb hG.lt
      generalize V2a.heap.size = b3 at hbx ⊢
      refine hK.out _ _ hstV3a.c (fun hHeld => ?_)
      clear hK K hb
      try simp only [Act.put, List.setIfInBounds_toArray, List.set_cons_zero, List.set_cons_succ]
      refine wpAnyH_ready (rs := [9]) (by kernel_rfl) (by simp) ?_
      refine AllReadyH.cons (o := { dst := some 20, op := .call { callee := .value (.tmp 19), args := #[.const (.int .i64 0)], argTypes := #[3] }, type := 89, pos := "bound.go:47", after := #[{ on := 8, ground := .data }, { on := 5, ground := .chain }], guard := none }) rfl (fun K hK => ?_) AllReadyH.nil
      go_simp
      go_at_call 59
      refine (just_calls _ _).mono ?_
      rintro r V4a ⟨rfl, hbx, hb⟩
      have hstV4a := hstV3a.step hb
      have hglt := hG.lt
      have hG := hG.below hb hG.lt
      generalize V3a.heap.size = b4 at hbx ⊢
      refine hK.out _ _ hstV4a.c (fun hHeld => ?_)
      clear hK K hb
      try simp only [Act.put, List.setIfInBounds_toArray, List.set_cons_zero, List.set_cons_succ]
      refine wpAnyH_ready (rs := [12]) (by kernel_rfl) (by simp) ?_
      refine AllReadyH.cons (o := { dst := some 23, op := .call { callee := .value (.tmp 22), args := #[.const (.int .i64 1)], argTypes := #[3] }, type := 89, pos := "bound.go:49", after := #[{ on := 11, ground := .data }, { on := 9, ground := .chain }], guard := none }) rfl (fun K hK => ?_) AllReadyH.nil
      go_simp
      go_at_call 59
      refine (just_calls _ _).mono ?_
      rintro r V5a ⟨rfl, hbx, hb⟩
      have hstV5a := hstV4a.step hb
      have hglt := hG.lt
      have hG := hG.below hb hG.lt
      have hne : V4a.heap.size ≠ gb := by omega
      generalize V4a.heap.size = b5 at hbx hne ⊢
      refine hK.out _ _ hstV5a.c (fun hHeld => ?_)
      clear hK K hb
      try simp only [Act.put, List.setIfInBounds_toArray, List.set_cons_zero, List.set_cons_succ]
      refine wpAnyH_take (i := 16) (oi := { dst := some 27, op := .build 91 #[(1, .tmp 12), (2, .tmp 14), (3, .tmp 16), (4, .tmp 17), (5, .tmp 18), (6, .tmp 20), (7, .tmp 21), (8, .tmp 23), (9, .tmp 24), (10, .tmp 25), (11, .tmp 26)], type := 91, pos := "bound.go:41", after := #[{ on := 1, ground := .data }, { on := 3, ground := .data }, { on := 5, ground := .data }, { on := 6, ground := .data }, { on := 7, ground := .data }, { on := 9, ground := .data }, { on := 10, ground := .data }, { on := 12, ground := .data }, { on := 13, ground := .data }, { on := 14, ground := .data }, { on := 15, ground := .data }], guard := none }) (v := .agg #[.nilFunc, .func (.func 60) #[] #[.pointer (some ⟨b1, 0, none⟩)], .func (.func 60) #[] #[.pointer (some ⟨b2, 0, none⟩)], .func (.func 60) #[] #[.pointer (some ⟨b3, 0, none⟩)], .func (.func 61) #[] #[.pointer (some ⟨w.heap.size + 1, 0, none⟩)], .func (.func 58) #[] #[.pointer (some ⟨w.heap.size, 0, none⟩)], .func (.func 60) #[] #[.pointer (some ⟨b4, 0, none⟩)], .func (.func 58) #[] #[.pointer (some ⟨w.heap.size, 0, none⟩)], .func (.func 60) #[] #[.pointer (some ⟨b5, 0, none⟩)], .func (.func 62) #[] #[.pointer (some ⟨w.heap.size, 0, none⟩)], .func (.func 58) #[] #[.pointer (some ⟨w.heap.size, 0, none⟩)], .func (.func 58) #[] #[.pointer (some ⟨w.heap.size, 0, none⟩)]]) rfl (by kernel_rfl) (by kernel_rfl) (by kernel_rfl) (fun _ _ _ h => h) (Or.inl ⟨by rfl, ?_⟩) (by assumption) ?_
      · intro w9 hSw
        go_simp
      try simp only [Act.put, List.setIfInBounds_toArray, List.set_cons_zero, List.set_cons_succ]
      refine wpAnyH_ready (rs := [18]) (by kernel_rfl) (by simp) ?_
      refine AllReadyH.cons (o := { dst := none, op := .store 91 (.tmp 7) (.tmp 27), type := 0, pos := "bound.go:41", after := #[{ on := 17, ground := .data }, { on := 16, ground := .data }, { on := 12, ground := .chain }, { on := 0, ground := .phase }, { on := 1, ground := .phase }, { on := 2, ground := .phase }, { on := 3, ground := .phase }, { on := 4, ground := .phase }, { on := 5, ground := .phase }, { on := 6, ground := .phase }, { on := 7, ground := .phase }, { on := 8, ground := .phase }, { on := 9, ground := .phase }, { on := 10, ground := .phase }, { on := 11, ground := .phase }, { on := 12, ground := .phase }, { on := 13, ground := .phase }, { on := 14, ground := .phase }, { on := 15, ground := .phase }, { on := 16, ground := .phase }, { on := 17, ground := .phase }], guard := none }) rfl (fun K hK => ?_) AllReadyH.nil
      rw [if_pos (by rfl)]
      refine wp_store_row 91 (.tmp 7) (.tmp 27) rfl gb #[.nilFunc, .func (.func 60) #[] #[.pointer (some ⟨b1, 0, none⟩)], .func (.func 60) #[] #[.pointer (some ⟨b2, 0, none⟩)], .func (.func 60) #[] #[.pointer (some ⟨b3, 0, none⟩)], .func (.func 61) #[] #[.pointer (some ⟨w.heap.size + 1, 0, none⟩)], .func (.func 58) #[] #[.pointer (some ⟨w.heap.size, 0, none⟩)], .func (.func 60) #[] #[.pointer (some ⟨b4, 0, none⟩)], .func (.func 58) #[] #[.pointer (some ⟨w.heap.size, 0, none⟩)], .func (.func 60) #[] #[.pointer (some ⟨b5, 0, none⟩)], .func (.func 62) #[] #[.pointer (some ⟨w.heap.size, 0, none⟩)], .func (.func 58) #[] #[.pointer (some ⟨w.heap.size, 0, none⟩)], .func (.func 58) #[] #[.pointer (some ⟨w.heap.size, 0, none⟩)]] rfl rfl 91 _ hG info_rr rfl (by simp [Value.oneCell']) ?_
      have hstz := hstV5a.row hgb #[.nilFunc, .func (.func 60) #[] #[.pointer (some ⟨b1, 0, none⟩)], .func (.func 60) #[] #[.pointer (some ⟨b2, 0, none⟩)], .func (.func 60) #[] #[.pointer (some ⟨b3, 0, none⟩)], .func (.func 61) #[] #[.pointer (some ⟨w.heap.size + 1, 0, none⟩)], .func (.func 58) #[] #[.pointer (some ⟨w.heap.size, 0, none⟩)], .func (.func 60) #[] #[.pointer (some ⟨b4, 0, none⟩)], .func (.func 58) #[] #[.pointer (some ⟨w.heap.size, 0, none⟩)], .func (.func 60) #[] #[.pointer (some ⟨b5, 0, none⟩)], .func (.func 62) #[] #[.pointer (some ⟨w.heap.size, 0, none⟩)], .func (.func 58) #[] #[.pointer (some ⟨w.heap.size, 0, none⟩)], .func (.func 58) #[] #[.pointer (some ⟨w.heap.size, 0, none⟩)]]
      have hGz := hG.row #[.nilFunc, .func (.func 60) #[] #[.pointer (some ⟨b1, 0, none⟩)], .func (.func 60) #[] #[.pointer (some ⟨b2, 0, none⟩)], .func (.func 60) #[] #[.pointer (some ⟨b3, 0, none⟩)], .func (.func 61) #[] #[.pointer (some ⟨w.heap.size + 1, 0, none⟩)], .func (.func 58) #[] #[.pointer (some ⟨w.heap.size, 0, none⟩)], .func (.func 60) #[] #[.pointer (some ⟨b4, 0, none⟩)], .func (.func 58) #[] #[.pointer (some ⟨w.heap.size, 0, none⟩)], .func (.func 60) #[] #[.pointer (some ⟨b5, 0, none⟩)], .func (.func 62) #[] #[.pointer (some ⟨w.heap.size, 0, none⟩)], .func (.func 58) #[] #[.pointer (some ⟨w.heap.size, 0, none⟩)], .func (.func 58) #[] #[.pointer (some ⟨w.heap.size, 0, none⟩)]]
      have hbz : (V5a.setRow gb #[.nilFunc, .func (.func 60) #[] #[.pointer (some ⟨b1, 0, none⟩)], .func (.func 60) #[] #[.pointer (some ⟨b2, 0, none⟩)], .func (.func 60) #[] #[.pointer (some ⟨b3, 0, none⟩)], .func (.func 61) #[] #[.pointer (some ⟨w.heap.size + 1, 0, none⟩)], .func (.func 58) #[] #[.pointer (some ⟨w.heap.size, 0, none⟩)], .func (.func 60) #[] #[.pointer (some ⟨b4, 0, none⟩)], .func (.func 58) #[] #[.pointer (some ⟨w.heap.size, 0, none⟩)], .func (.func 60) #[] #[.pointer (some ⟨b5, 0, none⟩)], .func (.func 62) #[] #[.pointer (some ⟨w.heap.size, 0, none⟩)], .func (.func 58) #[] #[.pointer (some ⟨w.heap.size, 0, none⟩)], .func (.func 58) #[] #[.pointer (some ⟨w.heap.size, 0, none⟩)]]).cell? ⟨b5, 0, none⟩ = some (.int .i64 1) := by
        rw [World.cell?_of_block (w := V5a) (by simp only [World.setRow, Array.getElem?_modify]; rw [if_neg (by omega)])]
        exact hbx
      refine hK.out _ _ hstz.c (fun hHeld => ?_)
      clear hK K
      try simp only [Act.put, List.setIfInBounds_toArray, List.set_cons_zero, List.set_cons_succ]
      refine wpAnyH_done (by kernel_rfl) ?_ _
      clear hG hbx hstV5a
      generalize (V5a.setRow gb #[.nilFunc, .func (.func 60) #[] #[.pointer (some ⟨b1, 0, none⟩)], .func (.func 60) #[] #[.pointer (some ⟨b2, 0, none⟩)], .func (.func 60) #[] #[.pointer (some ⟨b3, 0, none⟩)], .func (.func 61) #[] #[.pointer (some ⟨w.heap.size + 1, 0, none⟩)], .func (.func 58) #[] #[.pointer (some ⟨w.heap.size, 0, none⟩)], .func (.func 60) #[] #[.pointer (some ⟨b4, 0, none⟩)], .func (.func 58) #[] #[.pointer (some ⟨w.heap.size, 0, none⟩)], .func (.func 60) #[] #[.pointer (some ⟨b5, 0, none⟩)], .func (.func 62) #[] #[.pointer (some ⟨w.heap.size, 0, none⟩)], .func (.func 58) #[] #[.pointer (some ⟨w.heap.size, 0, none⟩)], .func (.func 58) #[] #[.pointer (some ⟨w.heap.size, 0, none⟩)]]) = Wz at hstz hGz hbz hHeld ⊢
      clear hHeld
      rcases hp with rfl | rfl | rfl
      · have hc := hGz.cell 8
        simp at hc
        go_wp2_with fail
        refine (just1_calls 1 b5 _ hbz).mono ?_
        rintro r W8 ⟨rfl, rfl⟩
        go_wp2
        go_ret
        exact ⟨rfl, hstz.bel⟩
      · have hc := hGz.cell 10
        simp at hc
        go_wp2_with fail
        refine (code_calls w.heap.size _ hstz.n).mono ?_
        rintro r W8 ⟨rfl, rfl⟩
        go_wp2
        go_ret
        exact ⟨rfl, hstz.bel⟩
      · have hc := hGz.cell 11
        simp at hc
        go_wp2_with fail
        refine (code_calls w.heap.size _ hstz.n).mono ?_
        rintro r W8 ⟨rfl, rfl⟩
        go_wp2
        go_ret
        exact ⟨rfl, hstz.bel⟩
    refine AllReadyH.cons (o := { dst := some 7, op := .alloc 91, type := 0, pos := "bound.go:41", after := #[], guard := none }) rfl (fun K hK => ?_) AllReadyH.nil
    go_simp
    have hstV1a := hstV1.step ((Below.refl _ _).alloc (Nat.le_refl _) (.cells #[.nilFunc, .nilFunc, .nilFunc, .nilFunc, .nilFunc, .nilFunc, .nilFunc, .nilFunc, .nilFunc, .nilFunc, .nilFunc, .nilFunc] 91))
    have hG := Blk.new V1 91 #[.nilFunc, .nilFunc, .nilFunc, .nilFunc, .nilFunc, .nilFunc, .nilFunc, .nilFunc, .nilFunc, .nilFunc, .nilFunc, .nilFunc]
    have hblt := World.block_lt_of_cell? _ _ hbx
    dsimp only at hblt
    have hbx : (V1.alloc (.cells #[.nilFunc, .nilFunc, .nilFunc, .nilFunc, .nilFunc, .nilFunc, .nilFunc, .nilFunc, .nilFunc, .nilFunc, .nilFunc, .nilFunc] 91)).cell? ⟨b1, 0, none⟩ = some (.int .i64 4096) := by rw [World.cell?_alloc_lt _ _ _ (World.block_lt_of_cell? _ _ hbx)]; exact hbx
    refine hK.out _ _ hstV1a.c (fun hHeld => ?_)
    clear hK K
    try simp only [Act.put, List.setIfInBounds_toArray, List.set_cons_zero, List.set_cons_succ]
    generalize V1.alloc (.cells #[.nilFunc, .nilFunc, .nilFunc, .nilFunc, .nilFunc, .nilFunc, .nilFunc, .nilFunc, .nilFunc, .nilFunc, .nilFunc, .nilFunc] 91) = V1a at hstV1a hG hbx hHeld ⊢
    have hgb := hstV1.size
    generalize V1.heap.size = gb at hG hgb ⊢
    refine wpAnyH_ready (rs := [3]) (by kernel_rfl) (by simp) ?_
    refine AllReadyH.cons (o := { dst := some 14, op := .call { callee := .value (.tmp 13), args := #[.const (.int .i64 2)], argTypes := #[3] }, type := 89, pos := "bound.go:43", after := #[{ on := 2, ground := .data }, { on := 1, ground := .chain }], guard := none }) rfl (fun K hK => ?_) AllReadyH.nil
    go_simp
    go_at_call 59
    refine (just_calls _ _).mono ?_
    rintro r V2a ⟨rfl, hbx, hb⟩
    have hstV2a := hstV1a.step hb
    have hglt := hG.lt
    have hG := hG.below hb hG.lt
    generalize V1a.heap.size = b2 at hbx ⊢
    refine hK.out _ _ hstV2a.c (fun hHeld => ?_)
    clear hK K hb
    try simp only [Act.put, List.setIfInBounds_toArray, List.set_cons_zero, List.set_cons_succ]
    refine wpAnyH_ready (rs := [5]) (by kernel_rfl) (by simp) ?_
    refine AllReadyH.cons (o := { dst := some 16, op := .call { callee := .value (.tmp 15), args := #[.const (.int .i64 86000)], argTypes := #[3] }, type := 89, pos := "bound.go:44", after := #[{ on := 4, ground := .data }, { on := 3, ground := .chain }], guard := none }) rfl (fun K hK => ?_) AllReadyH.nil
    go_simp
    go_at_call 59
    refine (just_calls _ _).mono ?_
    rintro r V3a ⟨rfl, hbx, hb⟩
    have hstV3a := hstV2a.step hb
    have hglt := hG.lt
    have hG := hG.below hb hG.lt
    generalize V2a.heap.size = b3 at hbx ⊢
    refine hK.out _ _ hstV3a.c (fun hHeld => ?_)
    clear hK K hb
    try simp only [Act.put, List.setIfInBounds_toArray, List.set_cons_zero, List.set_cons_succ]
    refine wpAnyH_ready (rs := [9]) (by kernel_rfl) (by simp) ?_
    refine AllReadyH.cons (o := { dst := some 20, op := .call { callee := .value (.tmp 19), args := #[.const (.int .i64 0)], argTypes := #[3] }, type := 89, pos := "bound.go:47", after := #[{ on := 8, ground := .data }, { on := 5, ground := .chain }], guard := none }) rfl (fun K hK => ?_) AllReadyH.nil
    go_simp
    go_at_call 59
    refine (just_calls _ _).mono ?_
    rintro r V4a ⟨rfl, hbx, hb⟩
    have hstV4a := hstV3a.step hb
    have hglt := hG.lt
    have hG := hG.below hb hG.lt
    generalize V3a.heap.size = b4 at hbx ⊢
    refine hK.out _ _ hstV4a.c (fun hHeld => ?_)
    clear hK K hb
    try simp only [Act.put, List.setIfInBounds_toArray, List.set_cons_zero, List.set_cons_succ]
    refine wpAnyH_ready (rs := [12]) (by kernel_rfl) (by simp) ?_
    refine AllReadyH.cons (o := { dst := some 23, op := .call { callee := .value (.tmp 22), args := #[.const (.int .i64 1)], argTypes := #[3] }, type := 89, pos := "bound.go:49", after := #[{ on := 11, ground := .data }, { on := 9, ground := .chain }], guard := none }) rfl (fun K hK => ?_) AllReadyH.nil
    go_simp
    go_at_call 59
    refine (just_calls _ _).mono ?_
    rintro r V5a ⟨rfl, hbx, hb⟩
    have hstV5a := hstV4a.step hb
    have hglt := hG.lt
    have hG := hG.below hb hG.lt
    have hne : V4a.heap.size ≠ gb := by omega
    generalize V4a.heap.size = b5 at hbx hne ⊢
    refine hK.out _ _ hstV5a.c (fun hHeld => ?_)
    clear hK K hb
    try simp only [Act.put, List.setIfInBounds_toArray, List.set_cons_zero, List.set_cons_succ]
    refine wpAnyH_take (i := 16) (oi := { dst := some 27, op := .build 91 #[(1, .tmp 12), (2, .tmp 14), (3, .tmp 16), (4, .tmp 17), (5, .tmp 18), (6, .tmp 20), (7, .tmp 21), (8, .tmp 23), (9, .tmp 24), (10, .tmp 25), (11, .tmp 26)], type := 91, pos := "bound.go:41", after := #[{ on := 1, ground := .data }, { on := 3, ground := .data }, { on := 5, ground := .data }, { on := 6, ground := .data }, { on := 7, ground := .data }, { on := 9, ground := .data }, { on := 10, ground := .data }, { on := 12, ground := .data }, { on := 13, ground := .data }, { on := 14, ground := .data }, { on := 15, ground := .data }], guard := none }) (v := .agg #[.nilFunc, .func (.func 60) #[] #[.pointer (some ⟨b1, 0, none⟩)], .func (.func 60) #[] #[.pointer (some ⟨b2, 0, none⟩)], .func (.func 60) #[] #[.pointer (some ⟨b3, 0, none⟩)], .func (.func 61) #[] #[.pointer (some ⟨w.heap.size + 1, 0, none⟩)], .func (.func 58) #[] #[.pointer (some ⟨w.heap.size, 0, none⟩)], .func (.func 60) #[] #[.pointer (some ⟨b4, 0, none⟩)], .func (.func 58) #[] #[.pointer (some ⟨w.heap.size, 0, none⟩)], .func (.func 60) #[] #[.pointer (some ⟨b5, 0, none⟩)], .func (.func 62) #[] #[.pointer (some ⟨w.heap.size, 0, none⟩)], .func (.func 58) #[] #[.pointer (some ⟨w.heap.size, 0, none⟩)], .func (.func 58) #[] #[.pointer (some ⟨w.heap.size, 0, none⟩)]]) rfl (by kernel_rfl) (by kernel_rfl) (by kernel_rfl) (fun _ _ _ h => h) (Or.inl ⟨by rfl, ?_⟩) (by assumption) ?_
    · intro w9 hSw
      go_simp
    try simp only [Act.put, List.setIfInBounds_toArray, List.set_cons_zero, List.set_cons_succ]
    refine wpAnyH_ready (rs := [18]) (by kernel_rfl) (by simp) ?_
    refine AllReadyH.cons (o := { dst := none, op := .store 91 (.tmp 7) (.tmp 27), type := 0, pos := "bound.go:41", after := #[{ on := 17, ground := .data }, { on := 16, ground := .data }, { on := 12, ground := .chain }, { on := 0, ground := .phase }, { on := 1, ground := .phase }, { on := 2, ground := .phase }, { on := 3, ground := .phase }, { on := 4, ground := .phase }, { on := 5, ground := .phase }, { on := 6, ground := .phase }, { on := 7, ground := .phase }, { on := 8, ground := .phase }, { on := 9, ground := .phase }, { on := 10, ground := .phase }, { on := 11, ground := .phase }, { on := 12, ground := .phase }, { on := 13, ground := .phase }, { on := 14, ground := .phase }, { on := 15, ground := .phase }, { on := 16, ground := .phase }, { on := 17, ground := .phase }], guard := none }) rfl (fun K hK => ?_) AllReadyH.nil
    rw [if_pos (by rfl)]
    refine wp_store_row 91 (.tmp 7) (.tmp 27) rfl gb #[.nilFunc, .func (.func 60) #[] #[.pointer (some ⟨b1, 0, none⟩)], .func (.func 60) #[] #[.pointer (some ⟨b2, 0, none⟩)], .func (.func 60) #[] #[.pointer (some ⟨b3, 0, none⟩)], .func (.func 61) #[] #[.pointer (some ⟨w.heap.size + 1, 0, none⟩)], .func (.func 58) #[] #[.pointer (some ⟨w.heap.size, 0, none⟩)], .func (.func 60) #[] #[.pointer (some ⟨b4, 0, none⟩)], .func (.func 58) #[] #[.pointer (some ⟨w.heap.size, 0, none⟩)], .func (.func 60) #[] #[.pointer (some ⟨b5, 0, none⟩)], .func (.func 62) #[] #[.pointer (some ⟨w.heap.size, 0, none⟩)], .func (.func 58) #[] #[.pointer (some ⟨w.heap.size, 0, none⟩)], .func (.func 58) #[] #[.pointer (some ⟨w.heap.size, 0, none⟩)]] rfl rfl 91 _ hG info_rr rfl (by simp [Value.oneCell']) ?_
    have hstz := hstV5a.row hgb #[.nilFunc, .func (.func 60) #[] #[.pointer (some ⟨b1, 0, none⟩)], .func (.func 60) #[] #[.pointer (some ⟨b2, 0, none⟩)], .func (.func 60) #[] #[.pointer (some ⟨b3, 0, none⟩)], .func (.func 61) #[] #[.pointer (some ⟨w.heap.size + 1, 0, none⟩)], .func (.func 58) #[] #[.pointer (some ⟨w.heap.size, 0, none⟩)], .func (.func 60) #[] #[.pointer (some ⟨b4, 0, none⟩)], .func (.func 58) #[] #[.pointer (some ⟨w.heap.size, 0, none⟩)], .func (.func 60) #[] #[.pointer (some ⟨b5, 0, none⟩)], .func (.func 62) #[] #[.pointer (some ⟨w.heap.size, 0, none⟩)], .func (.func 58) #[] #[.pointer (some ⟨w.heap.size, 0, none⟩)], .func (.func 58) #[] #[.pointer (some ⟨w.heap.size, 0, none⟩)]]
    have hGz := hG.row #[.nilFunc, .func (.func 60) #[] #[.pointer (some ⟨b1, 0, none⟩)], .func (.func 60) #[] #[.pointer (some ⟨b2, 0, none⟩)], .func (.func 60) #[] #[.pointer (some ⟨b3, 0, none⟩)], .func (.func 61) #[] #[.pointer (some ⟨w.heap.size + 1, 0, none⟩)], .func (.func 58) #[] #[.pointer (some ⟨w.heap.size, 0, none⟩)], .func (.func 60) #[] #[.pointer (some ⟨b4, 0, none⟩)], .func (.func 58) #[] #[.pointer (some ⟨w.heap.size, 0, none⟩)], .func (.func 60) #[] #[.pointer (some ⟨b5, 0, none⟩)], .func (.func 62) #[] #[.pointer (some ⟨w.heap.size, 0, none⟩)], .func (.func 58) #[] #[.pointer (some ⟨w.heap.size, 0, none⟩)], .func (.func 58) #[] #[.pointer (some ⟨w.heap.size, 0, none⟩)]]
    have hbz : (V5a.setRow gb #[.nilFunc, .func (.func 60) #[] #[.pointer (some ⟨b1, 0, none⟩)], .func (.func 60) #[] #[.pointer (some ⟨b2, 0, none⟩)], .func (.func 60) #[] #[.pointer (some ⟨b3, 0, none⟩)], .func (.func 61) #[] #[.pointer (some ⟨w.heap.size + 1, 0, none⟩)], .func (.func 58) #[] #[.pointer (some ⟨w.heap.size, 0, none⟩)], .func (.func 60) #[] #[.pointer (some ⟨b4, 0, none⟩)], .func (.func 58) #[] #[.pointer (some ⟨w.heap.size, 0, none⟩)], .func (.func 60) #[] #[.pointer (some ⟨b5, 0, none⟩)], .func (.func 62) #[] #[.pointer (some ⟨w.heap.size, 0, none⟩)], .func (.func 58) #[] #[.pointer (some ⟨w.heap.size, 0, none⟩)], .func (.func 58) #[] #[.pointer (some ⟨w.heap.size, 0, none⟩)]]).cell? ⟨b5, 0, none⟩ = some (.int .i64 1) := by
      rw [World.cell?_of_block (w := V5a) (by simp only [World.setRow, Array.getElem?_modify]; rw [if_neg (by omega)])]
      exact hbx
    refine hK.out _ _ hstz.c (fun hHeld => ?_)
    clear hK K
    try simp only [Act.put, List.setIfInBounds_toArray, List.set_cons_zero, List.set_cons_succ]
    refine wpAnyH_done (by kernel_rfl) ?_ _
    clear hG hbx hstV5a
    generalize (V5a.setRow gb #[.nilFunc, .func (.func 60) #[] #[.pointer (some ⟨b1, 0, none⟩)], .func (.func 60) #[] #[.pointer (some ⟨b2, 0, none⟩)], .func (.func 60) #[] #[.pointer (some ⟨b3, 0, none⟩)], .func (.func 61) #[] #[.pointer (some ⟨w.heap.size + 1, 0, none⟩)], .func (.func 58) #[] #[.pointer (some ⟨w.heap.size, 0, none⟩)], .func (.func 60) #[] #[.pointer (some ⟨b4, 0, none⟩)], .func (.func 58) #[] #[.pointer (some ⟨w.heap.size, 0, none⟩)], .func (.func 60) #[] #[.pointer (some ⟨b5, 0, none⟩)], .func (.func 62) #[] #[.pointer (some ⟨w.heap.size, 0, none⟩)], .func (.func 58) #[] #[.pointer (some ⟨w.heap.size, 0, none⟩)], .func (.func 58) #[] #[.pointer (some ⟨w.heap.size, 0, none⟩)]]) = Wz at hstz hGz hbz hHeld ⊢
    clear hHeld
    rcases hp with rfl | rfl | rfl
    · have hc := hGz.cell 8
      simp at hc
      go_wp2_with fail
      refine (just1_calls 1 b5 _ hbz).mono ?_
      rintro r W8 ⟨rfl, rfl⟩
      go_wp2
      go_ret
      exact ⟨rfl, hstz.bel⟩
    · have hc := hGz.cell 10
      simp at hc
      go_wp2_with fail
      refine (code_calls w.heap.size _ hstz.n).mono ?_
      rintro r W8 ⟨rfl, rfl⟩
      go_wp2
      go_ret
      exact ⟨rfl, hstz.bel⟩
    · have hc := hGz.cell 11
      simp at hc
      go_wp2_with fail
      refine (code_calls w.heap.size _ hstz.n).mono ?_
      rintro r W8 ⟨rfl, rfl⟩
      go_wp2
      go_ret
      exact ⟨rfl, hstz.bel⟩
  refine AllReadyH.cons (o := { dst := some 7, op := .alloc 91, type := 0, pos := "bound.go:41", after := #[], guard := none }) rfl (fun K hK => ?_) AllReadyH.nil
  go_simp
  have hstV0a := hstV0.step ((Below.refl _ _).alloc (Nat.le_refl _) (.cells #[.nilFunc, .nilFunc, .nilFunc, .nilFunc, .nilFunc, .nilFunc, .nilFunc, .nilFunc, .nilFunc, .nilFunc, .nilFunc, .nilFunc] 91))
  have hG := Blk.new V0 91 #[.nilFunc, .nilFunc, .nilFunc, .nilFunc, .nilFunc, .nilFunc, .nilFunc, .nilFunc, .nilFunc, .nilFunc, .nilFunc, .nilFunc]
  refine hK.out _ _ hstV0a.c (fun hHeld => ?_)
  clear hK K
  try simp only [Act.put, List.setIfInBounds_toArray, List.set_cons_zero, List.set_cons_succ]
  generalize V0.alloc (.cells #[.nilFunc, .nilFunc, .nilFunc, .nilFunc, .nilFunc, .nilFunc, .nilFunc, .nilFunc, .nilFunc, .nilFunc, .nilFunc, .nilFunc] 91) = V0a at hstV0a hG hHeld ⊢
  have hgb := hstV0.size
  generalize V0.heap.size = gb at hG hgb ⊢
  refine wpAnyH_ready (rs := [1]) (by kernel_rfl) (by simp) ?_
  refine AllReadyH.cons (o := { dst := some 12, op := .call { callee := .value (.tmp 11), args := #[.const (.int .i64 4096)], argTypes := #[3] }, type := 89, pos := "bound.go:42", after := #[{ on := 0, ground := .data }], guard := none }) rfl (fun K hK => ?_) AllReadyH.nil
  go_simp
  go_at_call 59
  refine (just_calls _ _).mono ?_
  rintro r V1a ⟨rfl, hbx, hb⟩
  have hstV1a := hstV0a.step hb
  have hglt := hG.lt
  have hG := hG.below hb hG.lt
  generalize V0a.heap.size = b1 at hbx ⊢
  refine hK.out _ _ hstV1a.c (fun hHeld => ?_)
  clear hK K hb
  try simp only [Act.put, List.setIfInBounds_toArray, List.set_cons_zero, List.set_cons_succ]
  refine wpAnyH_ready (rs := [3]) (by kernel_rfl) (by simp) ?_
  refine AllReadyH.cons (o := { dst := some 14, op := .call { callee := .value (.tmp 13), args := #[.const (.int .i64 2)], argTypes := #[3] }, type := 89, pos := "bound.go:43", after := #[{ on := 2, ground := .data }, { on := 1, ground := .chain }], guard := none }) rfl (fun K hK => ?_) AllReadyH.nil
  go_simp
  go_at_call 59
  refine (just_calls _ _).mono ?_
  rintro r V2a ⟨rfl, hbx, hb⟩
  have hstV2a := hstV1a.step hb
  have hglt := hG.lt
  have hG := hG.below hb hG.lt
  generalize V1a.heap.size = b2 at hbx ⊢
  refine hK.out _ _ hstV2a.c (fun hHeld => ?_)
  clear hK K hb
  try simp only [Act.put, List.setIfInBounds_toArray, List.set_cons_zero, List.set_cons_succ]
  refine wpAnyH_ready (rs := [5]) (by kernel_rfl) (by simp) ?_
  refine AllReadyH.cons (o := { dst := some 16, op := .call { callee := .value (.tmp 15), args := #[.const (.int .i64 86000)], argTypes := #[3] }, type := 89, pos := "bound.go:44", after := #[{ on := 4, ground := .data }, { on := 3, ground := .chain }], guard := none }) rfl (fun K hK => ?_) AllReadyH.nil
  go_simp
  go_at_call 59
  refine (just_calls _ _).mono ?_
  rintro r V3a ⟨rfl, hbx, hb⟩
  have hstV3a := hstV2a.step hb
  have hglt := hG.lt
  have hG := hG.below hb hG.lt
  generalize V2a.heap.size = b3 at hbx ⊢
  refine hK.out _ _ hstV3a.c (fun hHeld => ?_)
  clear hK K hb
  try simp only [Act.put, List.setIfInBounds_toArray, List.set_cons_zero, List.set_cons_succ]
  refine wpAnyH_ready (rs := [9]) (by kernel_rfl) (by simp) ?_
  refine AllReadyH.cons (o := { dst := some 20, op := .call { callee := .value (.tmp 19), args := #[.const (.int .i64 0)], argTypes := #[3] }, type := 89, pos := "bound.go:47", after := #[{ on := 8, ground := .data }, { on := 5, ground := .chain }], guard := none }) rfl (fun K hK => ?_) AllReadyH.nil
  go_simp
  go_at_call 59
  refine (just_calls _ _).mono ?_
  rintro r V4a ⟨rfl, hbx, hb⟩
  have hstV4a := hstV3a.step hb
  have hglt := hG.lt
  have hG := hG.below hb hG.lt
  generalize V3a.heap.size = b4 at hbx ⊢
  refine hK.out _ _ hstV4a.c (fun hHeld => ?_)
  clear hK K hb
  try simp only [Act.put, List.setIfInBounds_toArray, List.set_cons_zero, List.set_cons_succ]
  refine wpAnyH_ready (rs := [12]) (by kernel_rfl) (by simp) ?_
  refine AllReadyH.cons (o := { dst := some 23, op := .call { callee := .value (.tmp 22), args := #[.const (.int .i64 1)], argTypes := #[3] }, type := 89, pos := "bound.go:49", after := #[{ on := 11, ground := .data }, { on := 9, ground := .chain }], guard := none }) rfl (fun K hK => ?_) AllReadyH.nil
  go_simp
  go_at_call 59
  refine (just_calls _ _).mono ?_
  rintro r V5a ⟨rfl, hbx, hb⟩
  have hstV5a := hstV4a.step hb
  have hglt := hG.lt
  have hG := hG.below hb hG.lt
  have hne : V4a.heap.size ≠ gb := by omega
  generalize V4a.heap.size = b5 at hbx hne ⊢
  refine hK.out _ _ hstV5a.c (fun hHeld => ?_)
  clear hK K hb
  try simp only [Act.put, List.setIfInBounds_toArray, List.set_cons_zero, List.set_cons_succ]
  refine wpAnyH_take (i := 16) (oi := { dst := some 27, op := .build 91 #[(1, .tmp 12), (2, .tmp 14), (3, .tmp 16), (4, .tmp 17), (5, .tmp 18), (6, .tmp 20), (7, .tmp 21), (8, .tmp 23), (9, .tmp 24), (10, .tmp 25), (11, .tmp 26)], type := 91, pos := "bound.go:41", after := #[{ on := 1, ground := .data }, { on := 3, ground := .data }, { on := 5, ground := .data }, { on := 6, ground := .data }, { on := 7, ground := .data }, { on := 9, ground := .data }, { on := 10, ground := .data }, { on := 12, ground := .data }, { on := 13, ground := .data }, { on := 14, ground := .data }, { on := 15, ground := .data }], guard := none }) (v := .agg #[.nilFunc, .func (.func 60) #[] #[.pointer (some ⟨b1, 0, none⟩)], .func (.func 60) #[] #[.pointer (some ⟨b2, 0, none⟩)], .func (.func 60) #[] #[.pointer (some ⟨b3, 0, none⟩)], .func (.func 61) #[] #[.pointer (some ⟨w.heap.size + 1, 0, none⟩)], .func (.func 58) #[] #[.pointer (some ⟨w.heap.size, 0, none⟩)], .func (.func 60) #[] #[.pointer (some ⟨b4, 0, none⟩)], .func (.func 58) #[] #[.pointer (some ⟨w.heap.size, 0, none⟩)], .func (.func 60) #[] #[.pointer (some ⟨b5, 0, none⟩)], .func (.func 62) #[] #[.pointer (some ⟨w.heap.size, 0, none⟩)], .func (.func 58) #[] #[.pointer (some ⟨w.heap.size, 0, none⟩)], .func (.func 58) #[] #[.pointer (some ⟨w.heap.size, 0, none⟩)]]) rfl (by kernel_rfl) (by kernel_rfl) (by kernel_rfl) (fun _ _ _ h => h) (Or.inl ⟨by rfl, ?_⟩) (by assumption) ?_
  · intro w9 hSw
    go_simp
  try simp only [Act.put, List.setIfInBounds_toArray, List.set_cons_zero, List.set_cons_succ]
  refine wpAnyH_ready (rs := [18]) (by kernel_rfl) (by simp) ?_
  refine AllReadyH.cons (o := { dst := none, op := .store 91 (.tmp 7) (.tmp 27), type := 0, pos := "bound.go:41", after := #[{ on := 17, ground := .data }, { on := 16, ground := .data }, { on := 12, ground := .chain }, { on := 0, ground := .phase }, { on := 1, ground := .phase }, { on := 2, ground := .phase }, { on := 3, ground := .phase }, { on := 4, ground := .phase }, { on := 5, ground := .phase }, { on := 6, ground := .phase }, { on := 7, ground := .phase }, { on := 8, ground := .phase }, { on := 9, ground := .phase }, { on := 10, ground := .phase }, { on := 11, ground := .phase }, { on := 12, ground := .phase }, { on := 13, ground := .phase }, { on := 14, ground := .phase }, { on := 15, ground := .phase }, { on := 16, ground := .phase }, { on := 17, ground := .phase }], guard := none }) rfl (fun K hK => ?_) AllReadyH.nil
  rw [if_pos (by rfl)]
  refine wp_store_row 91 (.tmp 7) (.tmp 27) rfl gb #[.nilFunc, .func (.func 60) #[] #[.pointer (some ⟨b1, 0, none⟩)], .func (.func 60) #[] #[.pointer (some ⟨b2, 0, none⟩)], .func (.func 60) #[] #[.pointer (some ⟨b3, 0, none⟩)], .func (.func 61) #[] #[.pointer (some ⟨w.heap.size + 1, 0, none⟩)], .func (.func 58) #[] #[.pointer (some ⟨w.heap.size, 0, none⟩)], .func (.func 60) #[] #[.pointer (some ⟨b4, 0, none⟩)], .func (.func 58) #[] #[.pointer (some ⟨w.heap.size, 0, none⟩)], .func (.func 60) #[] #[.pointer (some ⟨b5, 0, none⟩)], .func (.func 62) #[] #[.pointer (some ⟨w.heap.size, 0, none⟩)], .func (.func 58) #[] #[.pointer (some ⟨w.heap.size, 0, none⟩)], .func (.func 58) #[] #[.pointer (some ⟨w.heap.size, 0, none⟩)]] rfl rfl 91 _ hG info_rr rfl (by simp [Value.oneCell']) ?_
  have hstz := hstV5a.row hgb #[.nilFunc, .func (.func 60) #[] #[.pointer (some ⟨b1, 0, none⟩)], .func (.func 60) #[] #[.pointer (some ⟨b2, 0, none⟩)], .func (.func 60) #[] #[.pointer (some ⟨b3, 0, none⟩)], .func (.func 61) #[] #[.pointer (some ⟨w.heap.size + 1, 0, none⟩)], .func (.func 58) #[] #[.pointer (some ⟨w.heap.size, 0, none⟩)], .func (.func 60) #[] #[.pointer (some ⟨b4, 0, none⟩)], .func (.func 58) #[] #[.pointer (some ⟨w.heap.size, 0, none⟩)], .func (.func 60) #[] #[.pointer (some ⟨b5, 0, none⟩)], .func (.func 62) #[] #[.pointer (some ⟨w.heap.size, 0, none⟩)], .func (.func 58) #[] #[.pointer (some ⟨w.heap.size, 0, none⟩)], .func (.func 58) #[] #[.pointer (some ⟨w.heap.size, 0, none⟩)]]
  have hGz := hG.row #[.nilFunc, .func (.func 60) #[] #[.pointer (some ⟨b1, 0, none⟩)], .func (.func 60) #[] #[.pointer (some ⟨b2, 0, none⟩)], .func (.func 60) #[] #[.pointer (some ⟨b3, 0, none⟩)], .func (.func 61) #[] #[.pointer (some ⟨w.heap.size + 1, 0, none⟩)], .func (.func 58) #[] #[.pointer (some ⟨w.heap.size, 0, none⟩)], .func (.func 60) #[] #[.pointer (some ⟨b4, 0, none⟩)], .func (.func 58) #[] #[.pointer (some ⟨w.heap.size, 0, none⟩)], .func (.func 60) #[] #[.pointer (some ⟨b5, 0, none⟩)], .func (.func 62) #[] #[.pointer (some ⟨w.heap.size, 0, none⟩)], .func (.func 58) #[] #[.pointer (some ⟨w.heap.size, 0, none⟩)], .func (.func 58) #[] #[.pointer (some ⟨w.heap.size, 0, none⟩)]]
  have hbz : (V5a.setRow gb #[.nilFunc, .func (.func 60) #[] #[.pointer (some ⟨b1, 0, none⟩)], .func (.func 60) #[] #[.pointer (some ⟨b2, 0, none⟩)], .func (.func 60) #[] #[.pointer (some ⟨b3, 0, none⟩)], .func (.func 61) #[] #[.pointer (some ⟨w.heap.size + 1, 0, none⟩)], .func (.func 58) #[] #[.pointer (some ⟨w.heap.size, 0, none⟩)], .func (.func 60) #[] #[.pointer (some ⟨b4, 0, none⟩)], .func (.func 58) #[] #[.pointer (some ⟨w.heap.size, 0, none⟩)], .func (.func 60) #[] #[.pointer (some ⟨b5, 0, none⟩)], .func (.func 62) #[] #[.pointer (some ⟨w.heap.size, 0, none⟩)], .func (.func 58) #[] #[.pointer (some ⟨w.heap.size, 0, none⟩)], .func (.func 58) #[] #[.pointer (some ⟨w.heap.size, 0, none⟩)]]).cell? ⟨b5, 0, none⟩ = some (.int .i64 1) := by
    rw [World.cell?_of_block (w := V5a) (by simp only [World.setRow, Array.getElem?_modify]; rw [if_neg (by omega)])]
    exact hbx
  refine hK.out _ _ hstz.c (fun hHeld => ?_)
  clear hK K
  try simp only [Act.put, List.setIfInBounds_toArray, List.set_cons_zero, List.set_cons_succ]
  refine wpAnyH_done (by kernel_rfl) ?_ _
  clear hG hbx hstV5a
  generalize (V5a.setRow gb #[.nilFunc, .func (.func 60) #[] #[.pointer (some ⟨b1, 0, none⟩)], .func (.func 60) #[] #[.pointer (some ⟨b2, 0, none⟩)], .func (.func 60) #[] #[.pointer (some ⟨b3, 0, none⟩)], .func (.func 61) #[] #[.pointer (some ⟨w.heap.size + 1, 0, none⟩)], .func (.func 58) #[] #[.pointer (some ⟨w.heap.size, 0, none⟩)], .func (.func 60) #[] #[.pointer (some ⟨b4, 0, none⟩)], .func (.func 58) #[] #[.pointer (some ⟨w.heap.size, 0, none⟩)], .func (.func 60) #[] #[.pointer (some ⟨b5, 0, none⟩)], .func (.func 62) #[] #[.pointer (some ⟨w.heap.size, 0, none⟩)], .func (.func 58) #[] #[.pointer (some ⟨w.heap.size, 0, none⟩)], .func (.func 58) #[] #[.pointer (some ⟨w.heap.size, 0, none⟩)]]) = Wz at hstz hGz hbz hHeld ⊢
  clear hHeld
  rcases hp with rfl | rfl | rfl
  · have hc := hGz.cell 8
    simp at hc
    go_wp2_with fail
    refine (just1_calls 1 b5 _ hbz).mono ?_
    rintro r W8 ⟨rfl, rfl⟩
    go_wp2
    go_ret
    exact ⟨rfl, hstz.bel⟩
  · have hc := hGz.cell 10
    simp at hc
    go_wp2_with fail
    refine (code_calls w.heap.size _ hstz.n).mono ?_
    rintro r W8 ⟨rfl, rfl⟩
    go_wp2
    go_ret
    exact ⟨rfl, hstz.bel⟩
  · have hc := hGz.cell 11
    simp at hc
    go_wp2_with fail
    refine (code_calls w.heap.size _ hstz.n).mono ?_
    rintro r W8 ⟨rfl, rfl⟩
    go_wp2
    go_ret
    exact ⟨rfl, hstz.bel⟩
end Go.Proofs.Ytogdbccfkbbcaaa
