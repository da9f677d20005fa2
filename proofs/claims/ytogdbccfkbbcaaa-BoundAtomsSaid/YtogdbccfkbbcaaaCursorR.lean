/- The walks of package wire: what a cursor reads. -/
import Derived.Test.YtogdbccfkbbcaaaCursorW
import Derived.WalkLawsBesides
namespace Go.Proofs.Ytogdbccfkbbcaaa
open Go.RowKit
variable {D : Nat}
/-- A byte, read: what comes, the error, the bytes behind. -/
def byteR (e : Nat) (l : List UInt8) : UInt8 × Nat × List UInt8 :=
  if e ≠ 0 then (0, e, l) else match l with
  | [] => (0, 4, [])
  | x :: r => (x, 0, r)
/-- A number, read. -/
def numR (most e : Nat) (l : List UInt8) : Nat × Nat × List UInt8 :=
  if e ≠ 0 then (0, e, l) else if (unvS 0 0 l).2.2 ≠ 0 then (0, (unvS 0 0 l).2.2, []) else if most < (unvS 0 0 l).1 then (0, 2, []) else ((unvS 0 0 l).1, 0, l.drop (unvS 0 0 l).2.1)
/-- Bytes, read. -/
def bytesR (most e : Nat) (l : List UInt8) : List UInt8 × Nat × List UInt8 :=
  if (numR most e l).2.1 ≠ 0 then ([], (numR most e l).2.1, (numR most e l).2.2) else if (numR most e l).2.2.length < (numR most e l).1 then ([], 4, [])
  else ((numR most e l).2.2.take (numR most e l).1, 0, (numR most e l).2.2.drop (numR most e l).1)
set_option maxRecDepth 100000 in
theorem one_nil (p : Nat) (w : World) (hc : Cur w D p 0 []) :
    Calls Try.prog 65 #[.pointer (some ⟨p, 0, none⟩)] w fun e' w' => e' = .returned (.int .u8 0) ∧ Cur w' D p 4 [] ∧ w.grownBy w' (some p) := by
  go_enter Try.func65, Try.ntmps65
  go_wp2_with fail
  refine (take_short p 1 [] _ (by simp) hc).mono ?_
  rintro e w1 ⟨rfl, hc1, hg⟩
  have HG := Lib.hid hg
  clear hg
  go_wp2
  go_ret
  exact ⟨rfl, hc1, HG.out⟩
set_option maxRecDepth 100000 in
theorem one_cons (p : Nat) (x : UInt8) (r : List UInt8) (w : World) (hc : Cur w D p 0 (x :: r)) :
    Calls Try.prog 65 #[.pointer (some ⟨p, 0, none⟩)] w fun e' w' => e' = .returned (.int .u8 (x.toNat : Int)) ∧ Cur w' D p 0 r ∧ w.grownBy w' (some p) := by
  go_enter Try.func65, Try.ntmps65
  go_wp2_with fail
  refine (take_calls p 1 (x :: r) _ (by simp) hc).mono ?_
  rintro e w1 ⟨A, rfl, hr, hc1, hg⟩
  obtain ⟨b, o, y, rfl, _, hy, hcell⟩ := hr.at_ (i := 0) (by simp)
  obtain rfl : x = y := by simpa using hy
  have hcell2 : w1.cell? ⟨b, o, none⟩ = some (.int .u8 (x.toNat : Int)) := hcell
  have HG := Lib.hid hg
  clear hg hy hcell hr
  go_wp2
  go_ret
  exact ⟨rfl, hc1, HG.out⟩
theorem once_byte_bad (p e : Nat) (l : List UInt8) (f : Value) (w : World) (he : 0 < e) (hc : Cur w D p e l) :
    Calls Try.prog 64 #[.pointer (some ⟨p, 0, none⟩), f] w fun e' w' => e' = .returned (.int .u8 0) ∧ w = w' := by
  have ht : ((e : Int) == 0) = false := by simp; omega
  go_enter Try.func64, Try.ntmps64
  go_wp2_with fail
  refine (well_calls p e l _ hc).mono ?_
  rintro e1 w1 ⟨rfl, rfl⟩
  go_wp2
  go_ret
  exact ⟨rfl, rfl⟩
theorem once_byte_calls (p e' : Nat) (l l' : List UInt8) (x : UInt8) (w : World) (hx : 0 < e' → x = 0) (hc : Cur w D p 0 l)
    (hf : Calls Try.prog 65 #[.pointer (some ⟨p, 0, none⟩)] w fun e w' => e = .returned (.int .u8 (x.toNat : Int)) ∧ Cur w' D p e' l' ∧ w.grownBy w' (some p)) :
    Calls Try.prog 64 #[.pointer (some ⟨p, 0, none⟩), .func (.func 65) #[] #[]] w fun e w' => e = .returned (.int .u8 (x.toNat : Int)) ∧ Cur w' D p e' l' ∧ w.grownBy w' (some p) := by
  have HX := Lib.hid hx
  have HF := Lib.hid hf
  clear hx hf
  go_enter Try.func64, Try.ntmps64
  go_wp2_with fail
  refine (well_calls p 0 l _ hc).mono ?_
  rintro e1 w1 ⟨rfl, rfl⟩
  go_wp2_with fail
  refine HF.out.mono ?_
  rintro e w1 ⟨rfl, hc1, hg⟩
  have HG := Lib.hid hg
  clear hg
  go_wp2_with fail
  refine (well_calls p e' l' _ hc1).mono ?_
  rintro e1 w2 ⟨rfl, rfl⟩
  by_cases he : e' = 0
  · subst he
    go_wp2
    go_ret
    exact ⟨rfl, hc1, HG.out⟩
  · have ht : ((e' : Int) == 0) = false := by simp; omega
    obtain rfl := HX.out (by omega)
    go_wp2
    go_ret
    exact ⟨rfl, hc1, HG.out⟩
theorem byte_reads (p e : Nat) (l : List UInt8) (w : World) (hc : Cur w D p e l) :
    Calls Try.prog 28 #[.pointer (some ⟨p, 0, none⟩)] w fun e' w' => e' = .returned (.int .u8 ((byteR e l).1.toNat : Int)) ∧ Cur w' D p (byteR e l).2.1 (byteR e l).2.2 ∧ w.grownBy w' (some p) := by
  by_cases he : e = 0
  · subst he
    cases l with
    | nil =>
      have H := once_byte_calls p 4 [] [] 0 w (fun _ => rfl) hc (one_nil p w hc)
      show Calls Try.prog _ _ w fun e' w' => e' = .returned (.int .u8 ((0 : UInt8).toNat : Int)) ∧ Cur w' D p 4 [] ∧ w.grownBy w' (some p)
      go_enter Try.func28, Try.ntmps28
      go_wp2_with fail
      refine H.mono ?_
      rintro e w1 ⟨rfl, hc1, hg⟩
      have HG := Lib.hid hg
      clear hg
      go_wp2
      go_ret
      exact ⟨rfl, hc1, HG.out⟩
    | cons x r =>
      have H := Lib.hid (once_byte_calls p 0 (x :: r) r x w (fun h => absurd h (by omega)) hc (one_cons p x r w hc))
      show Calls Try.prog _ _ w fun e' w' => e' = .returned (.int .u8 (x.toNat : Int)) ∧ Cur w' D p 0 r ∧ w.grownBy w' (some p)
      go_enter Try.func28, Try.ntmps28
      go_wp2_with fail
      refine H.out.mono ?_
      rintro e w1 ⟨rfl, hc1, hg⟩
      have HG := Lib.hid hg
      clear hg
      go_wp2
      go_ret
      exact ⟨rfl, hc1, HG.out⟩
  · have hb : byteR e l = (0, e, l) := by unfold byteR; rw [if_pos he]
    rw [hb]
    have H := Lib.hid (once_byte_bad p e l (.func (.func 65) #[] #[]) w (by omega) hc)
    clear hb
    go_enter Try.func28, Try.ntmps28
    go_wp2_with fail
    refine H.out.mono ?_
    rintro e w1 ⟨rfl, rfl⟩
    go_wp2
    go_ret
    exact ⟨rfl, hc, World.grownBy.refl _ _⟩
end Go.Proofs.Ytogdbccfkbbcaaa
