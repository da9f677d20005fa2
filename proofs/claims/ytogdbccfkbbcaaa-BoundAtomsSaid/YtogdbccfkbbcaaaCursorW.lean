/- The walks of package wire: the cursor. -/
import Derived.Test.YtogdbccfkbbcaaaPackW
import Derived.Test.YtogdbccfkbbcaaaMem2
namespace Go.Proofs.Ytogdbccfkbbcaaa
open Go.RowKit
variable {D : Nat}
/-- A cursor at block p: its error e, and the bytes l that come yet; these lie below block D. -/
def Cur (w : World) (D p : Nat) (e : Nat) (l : List UInt8) : Prop :=
  ∃ A c, Blk w p 97 #[.int .i64 (e : Int), .slice A l.length c] ∧ l.length ≤ c ∧ l.length ≤ 140737488351232 ∧ Rd B8 w (fun b => b ≠ p ∧ b < D) A l
theorem Cur.lt {w : World} {p e : Nat} {l : List UInt8} (h : Cur w D p e l) : p < w.heap.size := by
  obtain ⟨A, c, hb, _⟩ := h
  exact hb.lt
theorem Cur.grown {w w' : World} {p e : Nat} {l : List UInt8} {row : Option Nat} (h : Cur w D p e l) (hg : w.grownBy w' row) (hp : some p ≠ row) (hr : ∀ b, b ≠ p → b < D → some b ≠ row) : Cur w' D p e l := by
  obtain ⟨A, c, hb, h1, h2, hr1⟩ := h
  exact ⟨A, c, hb.grown hg hp, h1, h2, hr1.grown hg (fun b hb => hr b hb.1 hb.2)⟩
theorem Cur.below {w w' : World} {p e : Nat} {l : List UInt8} (h : Cur w D p e l) (hb : Below w.heap.size w w') : Cur w' D p e l :=
  h.grown (grown_of_below hb none) (by simp) (by simp)
theorem Cur.far {w : World} {p e : Nat} {l : List UInt8} (h : Cur w D p e l) {a : Addr} (h1 : a.block ≠ p) (h2 : D ≤ a.block) (u : Value) : Cur (w.setCell a u) D p e l :=
  h.grown (grown_setCell w a u) (by simp; omega) (fun b _ hb => by simp; omega)
theorem well_calls (p e : Nat) (l : List UInt8) (w : World) (hc : Cur w D p e l) :
    Calls Try.prog 73 #[.pointer (some ⟨p, 0, none⟩)] w fun e' w' => e' = .returned (.bool ((e : Int) == 0)) ∧ w = w' := by
  obtain ⟨A, c, hb, _⟩ := hc
  have hc0 := hb.cell 0
  simp only [List.getElem?_toArray, List.getElem?_cons_zero] at hc0
  go_enter Try.func73, Try.ntmps73
  go_wp2
  go_ret
  exact ⟨rfl, rfl⟩
set_option maxRecDepth 100000 in
theorem err_calls (p e' : Nat) (l : List UInt8) (w : World) (he : 0 < e') (he2 : e' < 100) (hc : Cur w D p 0 l) :
    Calls Try.prog 69 #[.pointer (some ⟨p, 0, none⟩), .int .i64 (e' : Int)] w fun e w' => e = .returned (.tuple #[]) ∧ Cur w' D p e' [] ∧ w.grownBy w' (some p) := by
  obtain ⟨A, c, hb, h1, h2, hr⟩ := hc
  have hc0 := hb.cell 0
  have hc1 := hb.cell 1
  have hf0 := hb.frozen 0
  have hf1 := hb.frozen 1
  have hx1 := (hb.set_ 0 (.int .i64 (e' : Int)))
  have hx0 := hx1.cell 0
  have hx2 := hx1.cell 1
  have hxf := hx1.frozen 1
  simp at hc0 hc1 hx0 hx2
  have ht : ((e' : Int) != 0) = true := by simp; omega
  go_enter Try.func69, Try.ntmps69
  go_wp2
  go_end0
  exact ⟨rfl, ⟨none, 0, hx1.set_ 1 (.slice none 0 0), by simp, by simp, Rd.nil⟩, (grown_setCell w ⟨p, 0, none⟩ _).trans (grown_setCell _ ⟨p, 1, none⟩ _)⟩
set_option maxRecDepth 100000 in
theorem take_short (p n : Nat) (l : List UInt8) (w : World) (hn : l.length < n) (hc : Cur w D p 0 l) :
    Calls Try.prog 70 #[.pointer (some ⟨p, 0, none⟩), .int .i64 (n : Int)] w fun e w' => e = .returned (.slice none 0 0) ∧ Cur w' D p 4 [] ∧ w.grownBy w' (some p) := by
  have hcc := hc
  obtain ⟨A, c, hb, h1, h2, hr⟩ := hc
  have hc1 := hb.cell 1
  simp at hc1
  have ht : decide (l.length < n) = true := by simp; omega
  clear hb h1 h2 hr
  go_enter Try.func70, Try.ntmps70
  go_wp2_with fail
  refine (err_calls p 4 l w (by omega) (by omega) hcc).mono ?_
  rintro e w1 ⟨rfl, hc2, hg⟩
  have HG := Lib.hid hg
  clear hg hc1 hcc
  go_wp2
  go_ret
  exact ⟨rfl, hc2, HG.out⟩
theorem Cur.set1 {w : World} {p e m c : Nat} {x : Value} {A : Option Addr} {l : List UInt8} (hb : Blk w p 97 #[.int .i64 (e : Int), x]) (hm : l.length = m) (h1 : m ≤ c) (h2 : m ≤ 140737488351232) (hr : Rd B8 w (fun b => b ≠ p ∧ b < D) A l) :
    Cur (w.setCell ⟨p, 1, none⟩ (.slice A m c)) D p e l := by
  subst hm
  exact ⟨A, c, hb.set_ 1 _, h1, h2, hr.far (p := ⟨p, 1, none⟩) (fun b hb => hb.1) _⟩
set_option maxRecDepth 100000 in
theorem take_calls (p n : Nat) (l : List UInt8) (w : World) (hn : n ≤ l.length) (hc : Cur w D p 0 l) :
    Calls Try.prog 70 #[.pointer (some ⟨p, 0, none⟩), .int .i64 (n : Int)] w fun e w' => ∃ A, e = .returned (.slice A n n) ∧ Rd B8 w' (fun b => b ≠ p ∧ b < D) A (l.take n) ∧ Cur w' D p 0 (l.drop n) ∧ w.grownBy w' (some p) := by
  obtain ⟨A, c, hb, h1, h2, hr⟩ := hc
  have hc1 := hb.cell 1
  have hf1 := hb.frozen 1
  simp at hc1
  have ht : decide (l.length < n) = false := by simp; omega
  by_cases hcap : c = n
  · subst hcap
    go_enter Try.func70, Try.ntmps70
    go_wp2
    go_ret
    have hl : l.length = c := by omega
    exact ⟨A, rfl, (hr.take c).far (p := ⟨p, 1, none⟩) (fun b hb => hb.1) _, Cur.set1 hb (by simp; omega) (by omega) (by omega) ((hr.take 0).weaken (fun _ h => h) |> fun h => by rw [List.drop_eq_nil_of_le (by omega)]; exact Rd.nil), grown_setCell w ⟨p, 1, none⟩ _⟩
  · go_enter Try.func70, Try.ntmps70
    go_wp2
    go_ret
    exact ⟨A, rfl, (hr.take n).far (p := ⟨p, 1, none⟩) (fun b hb => hb.1) _, Cur.set1 hb (by simp) (by omega) (by omega) (hr.drop n), grown_setCell w ⟨p, 1, none⟩ _⟩
end Go.Proofs.Ytogdbccfkbbcaaa
