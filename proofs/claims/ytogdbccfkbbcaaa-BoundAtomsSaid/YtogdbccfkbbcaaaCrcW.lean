/- The walks of package crc. -/
import Derived.Test.YtogdbccfkbbcaaaMem
import Derived.Test.YtogdbccfkbbcaaaBits
namespace Go.Proofs.Ytogdbccfkbbcaaa
open Go.RowKit
def stI (r : Int) : Int := if (bits .and .u16 r 32768 != 0) = true then bits .xor .u16 (IntKind.u16.wrap (r * 2)) 4129 else IntKind.u16.wrap (r * 2)
theorem step_calls (r : Int) (w : World) :
    Calls Try.prog 110 #[.int .u16 r] w fun e w' => e = .returned (.int .u16 (stI r)) ∧ w = w' := by
  by_cases h : (bits .and .u16 r 32768 != 0) = true
  · have hs : stI r = bits .xor .u16 (IntKind.u16.wrap (r * 2)) 4129 := by unfold stI; rw [if_pos h]
    rw [hs]; clear hs
    go_enter Try.func110, Try.ntmps110
    go_wp2
    go_ret
    exact ⟨rfl, rfl⟩
  · have hs : stI r = IntKind.u16.wrap (r * 2) := by unfold stI; rw [if_neg h]
    rw [hs]; clear hs
    replace h := Bool.eq_false_iff.mpr h
    go_enter Try.func110, Try.ntmps110
    go_wp2
    go_ret
    exact ⟨rfl, rfl⟩
def stN : Nat → Int → Int
  | 0, r => r
  | k + 1, r => stI (stN k r)
def tbI (i : Nat) : Int := stN 8 ((i : Int) * 256)
def tcells (i : Nat) : Array Value := ((List.range 256).map fun j => Value.int .u16 (if j < i then tbI j else 0)).toArray
theorem tcells_zero : Try.zeroCells139 = tcells 0 := by kernel_rfl
theorem tcells_size (i : Nat) : (tcells i).size = 256 := by simp [tcells]
theorem tcells_get (i j : Nat) (h : j < 256) : (tcells i)[j]? = some (Value.int .u16 (if j < i then tbI j else 0)) := by
  simp [tcells, h]
theorem tcells_succ (i : Nat) : (tcells i).setIfInBounds i (.int .u16 (tbI i)) = tcells (i + 1) := by
  apply Array.ext_getElem?
  intro j
  by_cases hj : j < 256
  · rw [tcells_get _ _ hj, Array.getElem?_setIfInBounds, tcells_get _ _ hj, tcells_size]
    by_cases h : i = j
    · subst h; simp [hj]
    · rw [if_neg h]
      by_cases h2 : j < i
      · rw [if_pos h2, if_pos (by omega)]
      · rw [if_neg h2, if_neg (by omega)]
  · rw [Array.getElem?_eq_none (by simp [tcells_size]; omega), Array.getElem?_eq_none (by simp [tcells_size]; omega)]
theorem tcells_one (i : Nat) : (tcells i).all (·.oneCell') = true := by
  simp [tcells]; intros; rfl
set_option maxRecDepth 100000 in
theorem table_calls (w : World) :
    Calls Try.prog 109 #[.func (.func 110) #[] #[]] w fun e w' => e = .returned (.agg (tcells 256)) ∧ Below w.heap.size w w' := by
  go_enter Try.func109, Try.ntmps109
  go_wp2
  go_loopw [5] (fun i wr => ∃ k : Nat, k ≤ 256 ∧ i = .int .i64 k ∧ Blk wr w.heap.size 139 (tcells k) ∧ Below w.heap.size w wr)
    (fun i _ => 256 - (intOf i).toNat)
  case atStart => exact ⟨0, by omega, rfl, by rw [tcells_zero]; exact Blk.new _ _ _, (Below.refl _ _).alloc (Nat.le_refl _) _⟩
  case round =>
    obtain ⟨k, hk, rfl, hb, hB⟩ := hrel
    have HB := Lib.hid hb
    clear hb
    by_cases hlt : k < 256
    · have hd : decide ((k : Int) < 256) = true := by simp; omega
      go_wp2
      go_loop [4, 11] (fun r i => ∃ j : Nat, j ≤ 8 ∧ i = .int .i64 j ∧ r = .int .u16 (stN j ((k : Int) * 256))) (fun _ i => 8 - (intOf i).toNat)
      case atStart => exact ⟨0, by omega, rfl, rfl⟩
      case round =>
        obtain ⟨j, hj, rfl, rfl⟩ := hrel
        by_cases hlt2 : j < 8
        · have hd2 : decide ((j : Int) < 8) = true := by simp; omega
          go_wp2_with (go_at_call 110; refine (step_calls _ _).mono ?_; rintro e w' ⟨rfl, rfl⟩)
          go_round
          case rel => exact ⟨j + 1, by omega, by go_num, rfl⟩
          case measure => simp [intOf]; omega
        · obtain rfl : j = 8 := by omega
          have hc := HB.out.cell k
          have hf := HB.out.frozen k
          rw [Array.getElem?_eq_getElem (by rw [tcells_size]; exact hlt)] at hc
          go_wp2
          go_roundw
          case rel => exact ⟨k + 1, by omega, by go_num, by rw [← tcells_succ]; exact HB.out.set_ k _, hB.setCell (Nat.le_refl _) _⟩
          case measure => simp [intOf]; omega
    · obtain rfl : k = 256 := by omega
      have hd : decide (((256 : Nat) : Int) < 256) = false := by decide
      go_wp2_with (first
        | (refine wpList_load_row rfl 139 (.tmp 2) rfl w.heap.size rfl 139 (tcells 256) (0, 0) _ HB.out Try.underlying139 rfl (by rw [tcells_size]; kernel_rfl) ?_)
        | (refine wpList_store_row rfl 139 (.tmp 2) (.tmp 21) rfl w.heap.size (tcells 256) rfl rfl 139 (tcells 256) HB.out (by rw [tcells_size]; kernel_rfl) rfl (tcells_one 256) ?_))
      refine bodyPost_ret (results_cell_row rfl _ _ w.heap.size 139 (tcells 256) (0, 0) _ rfl (setRow_heap _ _ _ _ _ _ HB.out) Try.underlying139 rfl (by rw [tcells_size]; kernel_rfl)) rfl ⟨rfl, below_setRow hB (Nat.le_refl _) _⟩


def idxI (s : Int) (c : UInt8) : Int := bits .xor .u8 (s / 256 % 256) (c.toNat : Int)
def mStep (s : Int) (c : UInt8) : Int := bits .xor .u16 (IntKind.u16.wrap (s * 256)) (tbI (idxI s c).toNat)
def mI : Int → List UInt8 → Int
  | s, [] => s
  | s, c :: r => mI (mStep s c) r
theorem mI_snoc (l : List UInt8) (c : UInt8) : ∀ s, mI s (l ++ [c]) = mStep (mI s l) c := by
  induction l with
  | nil => intro s; rfl
  | cons x r ih => intro s; exact ih _
theorem wrap_u8 (n : Int) : 0 ≤ IntKind.u8.wrap n ∧ IntKind.u8.wrap n < 256 := by
  have : IntKind.u8.wrap n = n % 256 := rfl
  omega
theorem wrap_u16 (n : Int) : 0 ≤ IntKind.u16.wrap n ∧ IntKind.u16.wrap n < 65536 := by
  have : IntKind.u16.wrap n = n % 65536 := rfl
  omega
theorem idxI_rng (s : Int) (c : UInt8) : 0 ≤ idxI s c ∧ idxI s c < 256 := wrap_u8 _
theorem mI_rng (l : List UInt8) : ∀ s, 0 ≤ s → s < 65536 → 0 ≤ mI s l ∧ mI s l < 65536 := by
  induction l with
  | nil => intro s h1 h2; exact ⟨h1, h2⟩
  | cons x r ih => intro s _ _; exact ih _ (wrap_u16 _).1 (wrap_u16 _).2
set_option maxRecDepth 100000 in
theorem more_calls (s : Int) (A : Option Addr) (l : List UInt8) (n c : Nat) (hn : l.length = n) (S : Nat → Prop) (w : World) (hl : n ≤ 9223372036854775807) (hr : Rd B8 w S A l) :
    Calls Try.prog 89 #[.int .u16 s, .slice A n c] w fun e w' => e = .returned (.int .u16 (mI s l)) ∧ Below w.heap.size w w' := by
  subst hn
  go_enter Try.func89, Try.ntmps89
  go_wp2_with (first
    | (go_at_call 109; refine (table_calls _).mono ?_; rintro e w1 ⟨rfl, hb⟩; have Hb := Lib.hid hb; clear hb)
    | (refine wpList_store_row rfl 139 (.tmp 5) (.tmp 8) rfl _ (tcells 256) rfl rfl 139 Try.zeroCells139 (Blk.new _ _ _) (by rw [tcells_size]; kernel_rfl) (by rw [tcells_zero, tcells_size, tcells_size]) (tcells_one 256) ?_))
  obtain ⟨W, hW⟩ : ∃ W, W = (w1.alloc (Obj.cells Try.zeroCells139 139)).setRow w1.heap.size (tcells 256) := ⟨_, rfl⟩
  have hB : Below w.heap.size w W := by rw [hW]; exact below_setRow (Hb.out.alloc Hb.out.size _) Hb.out.size _
  have hb : Blk W w1.heap.size 139 (tcells 256) := by rw [hW]; exact (Blk.new _ _ _).row _
  have hr2 := hr.below hB
  rw [← hW]
  clear hW
  go_loop [0, 11] (fun q i => ∃ k : Nat, k ≤ l.length ∧ i = .int .i64 k ∧ q = .int .u16 (mI s (l.take k))) (fun _ i => l.length - (intOf i).toNat)
  case atStart => exact ⟨0, by omega, rfl, rfl⟩
  case round =>
    obtain ⟨k, hk, rfl, rfl⟩ := hrel
    by_cases hlt : k < l.length
    · have hd : decide (k < l.length) = true := by simp; omega
      obtain ⟨b, o, x, rfl, _, hx0, hc⟩ := hr2.at_ hlt
      have hx := Lib.hid hx0
      clear hx0
      have hc2 : W.cell? ⟨b, o + k, none⟩ = some (.int .u8 (x.toNat : Int)) := hc
      have hi : 0 ≤ bits .xor .u8 (mI s (l.take k) / 256 % 256) (x.toNat : Int) ∧ bits .xor .u8 (mI s (l.take k) / 256 % 256) (x.toNat : Int) < 256 := wrap_u8 _
      have hT : W.cell? ⟨w1.heap.size, (bits .xor .u8 (mI s (l.take k) / 256 % 256) (x.toNat : Int)).toNat, none⟩ = some (.int .u16 (tbI (bits .xor .u8 (mI s (l.take k) / 256 % 256) (x.toNat : Int)).toNat)) := by
        rw [hb.cell, tcells_get _ _ (by omega), if_pos (by omega)]
      have hsn : Hid (mI s (l.take (k + 1)) = mStep (mI s (l.take k)) x) := by rw [take_snoc hx.out]; exact mI_snoc _ _ _
      clear hc
      go_wp2
      go_round
      case rel => exact ⟨k + 1, by omega, by go_num, by rw [hsn.out]; rfl⟩
      case measure => simp [intOf]; omega
    · have hd : decide (k < l.length) = false := by simp; omega
      have hE : Hid (l.take k = l) := List.take_of_length_le (by omega)
      go_wp2
      go_ret
      exact ⟨by rw [hE.out]; rfl, hB⟩
def sumI (l : List UInt8) : Int := mI 65535 l
theorem sumI_rng (l : List UInt8) : 0 ≤ sumI l ∧ sumI l < 65536 := mI_rng l _ (by omega) (by omega)
theorem sum_calls (A : Option Addr) (l : List UInt8) (n c : Nat) (hn : l.length = n) (S : Nat → Prop) (w : World) (hl : n ≤ 9223372036854775807) (hr : Rd B8 w S A l) :
    Calls Try.prog 63 #[.slice A n c] w fun e w' => e = .returned (.int .u16 (sumI l)) ∧ Below w.heap.size w w' := by
  have Hn := Lib.hid hn
  clear hn
  go_enter Try.func63, Try.ntmps63
  go_wp2_with (go_at_call 89; refine (more_calls _ _ _ _ _ Hn.out _ _ hl hr).mono ?_; rintro e w1 ⟨rfl, hb⟩; have Hb := Lib.hid hb; clear hb)
  go_ret
  exact ⟨rfl, Hb.out⟩
theorem open_short (A : Option Addr) (l : List UInt8) (c : Nat) (w : World) (hl : l.length < 2) :
    Calls Try.prog 26 #[.slice A l.length c] w fun e w' => e = .returned (.tuple #[.slice none 0 0, .int .i64 4]) ∧ w = w' := by
  go_enter Try.func26, Try.ntmps26
  go_wp2
  go_ret2
  exact ⟨rfl, rfl⟩
/-- The test of the last two bytes. -/
theorem open_bad (A : Option Addr) (l : List UInt8) (c : Nat) (S : Nat → Prop) (w : World) (n : Nat) (x y : UInt8) (hn : l.length = n + 2) (hx : l[n]? = some x) (hy : l[n + 1]? = some y)
    (hne : sumI (l.take n) ≠ (x.toNat : Int) * 256 + (y.toNat : Int)) (hc : l.length ≤ c) (hl : l.length ≤ 9223372036854775807) (hr : Rd B8 w S A l) :
    Calls Try.prog 26 #[.slice A (n + 2) c] w fun e w' => e = .returned (.tuple #[.slice none 0 0, .int .i64 5]) ∧ Below w.heap.size w w' := by
  have hr1 := hr.take n
  have hlt : (l.take n).length = n := by rw [List.length_take]; omega
  obtain ⟨b, o, x', rfl, _, hx', hcx⟩ := hr.at_ (i := n) (by omega)
  clear hx' hcx
  have Hx := Lib.hid hx
  have Hy := Lib.hid hy
  have Hl := Lib.hid hlt
  have hn0 : n ≤ c := by omega
  have hn1 : n + 2 ≤ 9223372036854775807 := by omega
  have ht : (sumI (l.take n) != (x.toNat : Int) * 256 + (y.toNat : Int)) = true := by simpa using hne
  clear hn hl hc hx hy hlt hne
  go_enter Try.func26, Try.ntmps26
  go_wp2_with fail
  refine (sum_calls _ _ _ _ Hl.out _ _ (by omega) hr1).mono ?_
  rintro e w1 ⟨rfl, hb⟩
  have hcx1 := (hr.below hb).cells Hx.out
  have hcy1 := (hr.below hb).cells Hy.out
  have Hb := Lib.hid hb
  clear hb
  unfold B8 at hcx1 hcy1
  have hw1 : IntKind.i64.wrap ((n : Int) + 1) = (n : Int) + 1 := IntWalk.i64_in _ ⟨by omega, by omega⟩
  have hw2 : ((n : Int) + 1).toNat = n + 1 := by omega
  go_wp2
  go_quiet (fail)
  rw [or16]
  go_wp2
  go_ret2
  exact ⟨rfl, below_drewN Hb.out _⟩
set_option maxRecDepth 100000 in
theorem open_good (A : Option Addr) (l : List UInt8) (c : Nat) (S : Nat → Prop) (w : World) (n : Nat) (x y : UInt8) (hn : l.length = n + 2) (hx : l[n]? = some x) (hy : l[n + 1]? = some y)
    (hne : sumI (l.take n) = (x.toNat : Int) * 256 + (y.toNat : Int)) (hc : l.length ≤ c) (hl : l.length ≤ 140737488351232) (hr : Rd B8 w S A l) :
    Calls Try.prog 26 #[.slice A (n + 2) c] w fun e w' => ∃ A' c', e = .returned (.tuple #[.slice A' n c', .int .i64 0]) ∧ n ≤ c' ∧ Rd B8 w' (fun b => w.heap.size ≤ b) A' (l.take n) ∧ Below w.heap.size w w' := by
  obtain ⟨i0, hi, hz0, hz1, hz2⟩ := info_parts info5
  have hr1 := hr.take n
  have hlt : (l.take n).length = n := by rw [List.length_take]; omega
  obtain ⟨b, o, x', rfl, _, hx', hcx⟩ := hr.at_ (i := n) (by omega)
  clear hx' hcx
  have Hx := Lib.hid hx
  have Hy := Lib.hid hy
  have Hl := Lib.hid hlt
  have hn0 : n ≤ c := by omega
  have hn1 : n + 2 ≤ 140737488351232 := by omega
  have ht : (sumI (l.take n) != (x.toNat : Int) * 256 + (y.toNat : Int)) = false := by simpa using hne
  clear hn hl hc hx hy hlt hne
  go_enter Try.func26, Try.ntmps26
  go_wp2_with fail
  refine (sum_calls _ _ _ _ Hl.out _ _ (by omega) hr1).mono ?_
  rintro e w1 ⟨rfl, hb⟩
  have hcx1 := (hr.below hb).cells Hx.out
  have hcy1 := (hr.below hb).cells Hy.out
  have Hb := Lib.hid hb
  clear hb
  unfold B8 at hcx1 hcy1
  have hw1 : IntKind.i64.wrap ((n : Int) + 1) = (n : Int) + 1 := IntWalk.i64_in _ ⟨by omega, by omega⟩
  have hw2 : ((n : Int) + 1).toNat = n + 1 := by omega
  go_wp2
  go_quiet (fail)
  rw [or16]
  go_wp2_with (at_builtin; refine wpList_append_rd _ rfl (.tmp 30) (.tmp 33) 36 rfl (enc := B8) (S := S) w.heap.size 5 i0 (.int .u8 0) 1 Try.underlying36 hi hz0 hz1 hz2 rfl _ 0 [] rfl ?c1 _ n c (l.take n) rfl ?c2 ?c3 one8 ?c4 ?c5 ?c6 ?_)
  case c1 => exact owns_empty _ _ _ (by simpa using Hb.out.size)
  case c2 => exact Hl.out
  case c3 => exact ((hr1.below Hb.out).drewN _).alloc _
  case c4 => unfold maxLen; omega
  case c5 => omega
  case c6 => have := Hb.out.size; simp; omega
  intro v' w2 hown hgr _
  obtain ⟨A', c', rfl, hle, hrd⟩ := Rd.own (l := l.take n) (by simpa using hown)
  have hB : Below w.heap.size w w2 := ((below_drewN Hb.out _).alloc Hb.out.size _).grown hgr (by have := Hb.out.size; simp; omega) (fun k hk => by have := Hb.out.size; simp [Value.ownBlock] at hk; omega)
  clear hown hgr
  go_wp2
  go_ret2
  exact ⟨_, _, rfl, hle, hrd, hB⟩
/-- What Seal lays behind: the two bytes of the sum. -/
def sealB (l : List UInt8) : List UInt8 := [UInt8.ofNat ((sumI l).toNat / 256), UInt8.ofNat ((sumI l).toNat % 256)]
theorem seal_hi (l : List UInt8) : B8 (UInt8.ofNat ((sumI l).toNat / 256)) = .int .u8 (sumI l / 256) := by
  have := sumI_rng l
  unfold B8
  congr 1
  rw [UInt8.toNat_ofNat']
  omega
theorem seal_lo (l : List UInt8) : B8 (UInt8.ofNat ((sumI l).toNat % 256)) = .int .u8 (sumI l % 256) := by
  have := sumI_rng l
  unfold B8
  congr 1
  rw [UInt8.toNat_ofNat']
  omega
set_option maxRecDepth 100000 in
theorem seal_calls (A : Option Addr) (l : List UInt8) (n c : Nat) (S : Nat → Prop) (w : World) (hn : l.length = n) (hc : n ≤ c) (hl : n ≤ 140737488351230) (hr : Rd B8 w S A l) :
    Calls Try.prog 45 #[.slice A n c] w fun e w' => ∃ A' c', e = .returned (.slice A' (n + 2) c') ∧ n + 2 ≤ c' ∧ Rd B8 w' (fun b => w.heap.size ≤ b) A' (l ++ sealB l) ∧ Below w.heap.size w w' := by
  obtain ⟨i0, hi, hz0, hz1, hz2⟩ := info_parts info5
  have Hn := Lib.hid hn
  have hrg := sumI_rng l
  clear hn
  go_enter Try.func45, Try.ntmps45
  go_wp2_with fail
  refine (sum_calls _ _ _ _ Hn.out _ _ (by omega) hr).mono ?_
  rintro e w1 ⟨rfl, hb⟩
  have Hb := Lib.hid hb
  clear hb
  go_wp2_with (at_builtin; refine wpList_append_grows _ rfl (.tmp 11) (.tmp 17) 36 rfl 5 i0 (.int .u8 0) 1 1 Try.underlying36 hi hz0 hz1 hz2 rfl (by decide) A n n (l.map B8) rfl ?c1 ?c2 ?c3 ⟨w1.heap.size, 0, none⟩ 2 2 [.int .u8 (sumI l / 256), .int .u8 (sumI l % 256)] rfl rfl ?c4 ?c5 ?c6 ?c7 ?c8 ?_)
  case c1 =>
    intro h
    subst h
    have : l.length = 0 := by
      rcases Nat.eq_zero_or_pos l.length with h0 | h0
      · exact h0
      · obtain ⟨b, o, h, _⟩ := hr h0
        cases h
    have := Hn.out
    omega
  case c2 => rw [List.length_map, Hn.out]; omega
  case c3 =>
    intro b hb
    subst hb
    exact ((hr.below Hb.out).alloc _).from_
  case c4 => exact World.news_of_block (heap_alloc_new _ _)
  case c5 => intro u hu; simp at hu; rcases hu with rfl | rfl <;> rfl
  case c6 => omega
  case c7 => unfold maxLen; omega
  case c8 => omega
  intro v' w2 hown hgr
  have hB : Below w.heap.size w w2 := (Hb.out.alloc Hb.out.size _).grown hgr (by have := Hb.out.size; simp; omega) (fun k hk => by cases hk)
  obtain ⟨A', c', rfl, hle, hrd⟩ := Rd.own (l := l ++ sealB l) (enc := B8) (by unfold sealB; simp only [List.map_append, List.map_cons, List.map_nil, seal_hi, seal_lo]; exact hown)
  have hs := Hb.out.size
  clear hown hgr
  go_wp2
  go_ret
  exact ⟨_, _, rfl, hle, hrd.weaken (fun b hb => by omega), hB⟩
end Go.Proofs.Ytogdbccfkbbcaaa
