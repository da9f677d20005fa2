/- The walks of package pack: Var. -/
import Derived.Test.YtogdbccfkbbcaaaPackW
namespace Go.Proofs.Ytogdbccfkbbcaaa
open Go.RowKit
/-- The i-th byte of a varint of m groups. -/
def vb (x m i : Nat) : UInt8 := UInt8.ofNat (x / 2 ^ (7 * i) % 128 + if i + 1 < m then 128 else 0)
theorem vb_val (x m i : Nat) : (vb x m i).toNat = x / 2 ^ (7 * i) % 128 + if i + 1 < m then 128 else 0 := by
  unfold vb
  rw [UInt8.toNat_ofNat']
  by_cases h : i + 1 < m
  · rw [if_pos h]; omega
  · rw [if_neg h]; omega
theorem or128 : ∀ x : Fin 128, bits .or .u8 ((x.val : Nat) : Int) 128 = ((x.val + 128 : Nat) : Int) := by decide +kernel
theorem group_val (x i : Nat) : bits .andNot .u8 ((x : Int) / 2 ^ (7 * i) % 256) 128 = ((x / 2 ^ (7 * i) % 128 : Nat) : Int) := by
  have e : (x : Int) / 2 ^ (7 * i) % 256 = ((x / 2 ^ (7 * i) % 256 : Nat) : Int) := by
    have hp : (2 : Int) ^ (7 * i) = ((2 ^ (7 * i) : Nat) : Int) := by simp
    rw [hp]
    show (x : Int) / ((2 ^ (7 * i) : Nat) : Int) % ((256 : Nat) : Int) = _
    rw [← Int.natCast_ediv, ← Int.natCast_emod]
  rw [e, andNot128 ⟨x / 2 ^ (7 * i) % 256, by omega⟩]
  congr 1
  simp only
  omega
theorem group_more (x m i : Nat) (h : i + 1 < m) : Value.int .u8 (bits .or .u8 (bits .andNot .u8 ((x : Int) / 2 ^ (7 * i) % 256) 128) 128) = B8 (vb x m i) := by
  rw [group_val, or128 ⟨x / 2 ^ (7 * i) % 128, by omega⟩]
  unfold B8
  rw [vb_val, if_pos h]
theorem group_last (x m i : Nat) (h : ¬ i + 1 < m) : Value.int .u8 (bits .andNot .u8 ((x : Int) / 2 ^ (7 * i) % 256) 128) = B8 (vb x m i) := by
  rw [group_val]
  unfold B8
  rw [vb_val, if_neg h]
  rfl
set_option maxRecDepth 100000 in
theorem group_calls (x m i p q : Nat) (hm : 1 ≤ m) (hm2 : m ≤ 10) (hi : i < m) (w : World) (hp : w.cell? ⟨p, 0, none⟩ = some (.int .u64 (x : Int))) (hq : w.cell? ⟨q, 0, none⟩ = some (.int .i64 ((m : Int) - 1))) :
    Calls Try.prog 97 #[.int .i64 (i : Int), .pointer (some ⟨p, 0, none⟩), .pointer (some ⟨q, 0, none⟩)] w fun e w' => e = .returned (.int .u8 ((vb x m i).toNat : Int)) ∧ w = w' := by
  by_cases h : i + 1 < m
  · have hd : decide ((i : Int) < (m : Int) - 1) = true := by simp; omega
    go_enter Try.func97, Try.ntmps97
    go_wp2
    go_ret
    exact ⟨congrArg Ending.returned (group_more x m i h), rfl⟩
  · have hd : decide ((i : Int) < (m : Int) - 1) = false := by simp; omega
    go_enter Try.func97, Try.ntmps97
    go_wp2
    go_ret
    exact ⟨congrArg Ending.returned (group_last x m i h), rfl⟩
/-- The bytes of a varint of m groups, of which k are laid. -/
def vcells (x m k : Nat) : Array Value := ((List.range m).map fun j => if j < k then B8 (vb x m j) else .int .u8 0).toArray
theorem vcells_size (x m k : Nat) : (vcells x m k).size = m := by simp [vcells]
theorem vcells_get (x m k j : Nat) (h : j < m) : (vcells x m k)[j]? = some (if j < k then B8 (vb x m j) else .int .u8 0) := by
  simp [vcells, h]
theorem vcells_succ (x m k : Nat) : (vcells x m k).setIfInBounds k (B8 (vb x m k)) = vcells x m (k + 1) := by
  apply Array.ext_getElem?
  intro j
  by_cases hj : j < m
  · rw [vcells_get _ _ _ _ hj, Array.getElem?_setIfInBounds, vcells_get _ _ _ _ hj, vcells_size]
    by_cases h : k = j
    · subst h; simp [hj]
    · rw [if_neg h]
      by_cases h2 : j < k
      · rw [if_pos h2, if_pos (by omega)]
      · rw [if_neg h2, if_neg (by omega)]
  · rw [Array.getElem?_eq_none (by simp [vcells_size]; omega), Array.getElem?_eq_none (by simp [vcells_size]; omega)]
theorem made_vcells (x m : Nat) : madeCells (Value.int .u8 0).cells (m * 1) = vcells x m 0 := by
  apply Array.ext_getElem?
  intro j
  by_cases hj : j < m
  · rw [vcells_get _ _ _ _ hj, if_neg (by omega)]
    simp [madeCells, hj, Value.cells, Nat.mod_one]
  · rw [Array.getElem?_eq_none (by simp [size_madeCells]; omega), Array.getElem?_eq_none (by simp [vcells_size]; omega)]
def varL (x : Nat) : List UInt8 := (List.range (szS x)).map (vb x (szS x))
theorem varL_length (x : Nat) : (varL x).length = szS x := by simp [varL]
set_option maxRecDepth 100000 in
theorem fill_calls (x m p q : Nat) (hm : 1 ≤ m) (hm2 : m ≤ 10) (w : World) (hp : w.cell? ⟨p, 0, none⟩ = some (.int .u64 (x : Int))) (hq : w.cell? ⟨q, 0, none⟩ = some (.int .i64 ((m : Int) - 1)))
    (hpl : p < w.heap.size) (hql : q < w.heap.size) :
    Calls Try.prog 96 #[.int .i64 (m : Int), .func (.func 97) #[] #[.pointer (some ⟨p, 0, none⟩), .pointer (some ⟨q, 0, none⟩)]] w fun e w' => e = .returned (.slice (some ⟨w.heap.size, 0, none⟩) m m) ∧
      Blk w' w.heap.size 5 (vcells x m m) ∧ Below w.heap.size w w' := by
  obtain ⟨i0, hi, hz0, hz1, hz2⟩ := info_parts info5
  have hmk : ∀ W : World, (Instr.makeSlice 36 (.int .i64 (m : Int)) (.int .i64 (m : Int))).run Try.prog W = .ok (.slice (some ⟨W.heap.size, 0, none⟩) m m) (W.alloc (.cells (vcells x m 0) 5)) := fun W => by
    have h := run_make (P := Try.prog) W 36 5 i0 _ Try.underlying36 hi hz0 .i64 .i64 (m : Int) (m : Int) (by omega) (by omega) (by rw [hz2]; omega) (by omega)
    rw [hz1, Int.toNat_natCast, made_vcells x m] at h
    exact h
  go_enter Try.func96, Try.ntmps96
  go_wp2
  go_loopw [11] (fun i wr => ∃ k : Nat, k ≤ m ∧ i = .int .i64 k ∧ Blk wr w.heap.size 5 (vcells x m k) ∧ Below w.heap.size w wr) (fun i _ => m - (intOf i).toNat)
  case atStart => exact ⟨0, by omega, rfl, Blk.new _ _ _, (Below.refl _ _).alloc (Nat.le_refl _) _⟩
  case round =>
    obtain ⟨k, hk, rfl, hb, hB⟩ := hrel
    by_cases hlt : k < m
    · have hd : decide ((k : Int) < m) = true := by simp; omega
      have hd' : decide (k < m) = true := by simp; omega
      have hcell := hb.cell k
      rw [vcells_get _ _ _ _ hlt, if_neg (by omega)] at hcell
      have hfr := hb.frozen k
      have hp1 := (hB.cell (p := ⟨p, 0, none⟩) hpl).trans hp
      have hq1 := (hB.cell (p := ⟨q, 0, none⟩) hql).trans hq
      go_wp2_with fail
      refine (group_calls x m k p q hm hm2 hlt _ hp1 hq1).mono ?_
      rintro e w1 ⟨rfl, rfl⟩
      go_wp2
      go_roundw
      case rel => exact ⟨k + 1, by omega, by go_num, by rw [← vcells_succ]; exact hb.set_ k _, hB.setCell (Nat.le_refl _) _⟩
      case measure => simp [intOf]; omega
    · obtain rfl : k = m := by omega
      have hd : decide ((k : Int) < k) = false := by simp
      have hd' : decide (k < k) = false := by simp
      go_wp2
      go_ret
      exact ⟨rfl, hb, hB⟩
theorem vcells_full (x m : Nat) : vcells x m m = (((List.range m).map (vb x m)).map B8).toArray := by
  unfold vcells
  congr 1
  rw [List.map_map]
  apply List.map_congr_left
  intro j hj
  rw [if_pos (List.mem_range.1 hj)]
  rfl
theorem Rd.blk {α : Type} {enc : α → Value} {w : World} {S : Nat → Prop} {g : Nat} {t : TypeId} {l : List α} (h : Blk w g t (l.map enc).toArray) (hS : S g) : Rd enc w S (some ⟨g, 0, none⟩) l :=
  fun _ => ⟨g, 0, rfl, hS, fun j hj => by rw [h.cell]; simp [hj]⟩
set_option maxRecDepth 100000 in
theorem var_calls (x : Nat) (hx : x < 18446744073709551616) (w : World) :
    Calls Try.prog 81 #[.int .u64 (x : Int)] w fun e w' => ∃ A, e = .returned (.slice A (szS x) (szS x)) ∧ Rd B8 w' (fun b => w.heap.size ≤ b) A (varL x) ∧ Below w.heap.size w w' := by
  have hm := szS_rng x
  go_enter Try.func81, Try.ntmps81
  go_wp2_with fail
  refine (size_calls x hx _).mono ?_
  rintro e w1 ⟨rfl, rfl⟩
  clear hx
  go_wp2_with fail
  have hb1 := ((Blk.new w 28 #[.int .u64 (x : Int)]).alloc (.cells #[.int .i64 ((szS x : Int) - 1)] 3)).cell 0
  have hb2 := (Blk.new (w.alloc (.cells #[.int .u64 (x : Int)] 28)) 3 #[.int .i64 ((szS x : Int) - 1)]).cell 0
  rw [World.size_alloc] at hb2
  refine (fill_calls x (szS x) w.heap.size (w.heap.size + 1) hm.1 hm.2 _ hb1 hb2 (by simp; omega) (by simp)).mono ?_
  rintro e w2 ⟨rfl, hb, hB⟩
  have HB := Lib.hid hb
  clear hb hb1 hb2
  go_wp2
  go_ret
  have hB2 : Below w.heap.size w w2 := (((Below.refl _ _).alloc (Nat.le_refl _) _).alloc (by simp) _).trans (hB.mono (by simp; omega))
  refine ⟨_, rfl, Rd.blk (t := 5) (l := varL x) ?_ (show w.heap.size ≤ w.heap.size + 1 + 1 by omega), hB2⟩
  have h := HB.out
  rw [vcells_full, World.size_alloc, World.size_alloc] at h
  exact h
end Go.Proofs.Ytogdbccfkbbcaaa
