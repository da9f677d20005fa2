/-
  No cell of these rows narrows 'for every input' (looked for: loops, veiled, ifaces, maps, wideKeys, modest, calm, conditions, laid).
  DERIVED. THE GIVEN ROWS OF THIS SEAT. 5 by the template 'for every input the law returns true; each argument reads behind the call as it read before'; 0 by the template 'total and deterministic' (their statements: YtogdbccfkbbcaaaTotals.lean).
  GIVEN WITH THE SEED: the statements are not yours to turn. If you find one false, say at which input.
  Laid BY PROGRAM, IN A SANDBOX (cutbox-rows.mjs): the forced cells as the released guide's own fill.sh prints them over the translation b86384c46e7a8272… (all of the seat's roots in one cut). By AI agents, Wed Nov 11 2026. No macro, syntax, notation, axiom, sorry.
-/
import Derived.Test.YtogdbccfkbbcaaaChecked
import GoSem.Claim
import GoSem.ClaimJoined
import GoSem.ClaimMapViews
import Derived.JoinedTies
import Derived.KernelRfl
namespace Go.Proofs.Ytogdbccfkbbcaaa
/- THE CELL 'sum', in the pinned program and in every row, IS THE sha256 OF THE DUMP (.gsa) THAT YtogdbccfkbbcaaaProg.lean LOADS. Nothing in Lean hashes anything: it is a label: what it is worth is what the hold of that sum in a sandbox is worth. -/
noncomputable def Try.pinned : Pinned := { name := "ytogdbccfkbbcaaa", sum := "b86384c46e7a82724219d7b7c8735a32ff2229af979a850d90028f4b54869a0f", checked := Try.checked }
namespace Rows
def none {H : Type} : Left H := { results := [], args := [] }

/-- 'handcartlaw34.BoundAtoms': WHATEVER THE INPUT: true; the input reads as it did. -/
def boundAtomsSpec : ChangeSpec := { name := "boundAtoms", fn := fun _ => fun
  | [d] => { results := [.lit (.bool true)], args := [d] }
  | _ => none }
def boundAtomsRow : OpenClaim := { program := "ytogdbccfkbbcaaa", sum := "b86384c46e7a82724219d7b7c8735a32ff2229af979a850d90028f4b54869a0f", func := "handcart/handcartlaw34.BoundAtoms", spec := "boundAtoms", unfollowed := true, recurses := true, apart := false }
def BoundAtomsSaid : Prop := boundAtomsRow.holds Try.pinned (OpenSpec.ofChange boundAtomsSpec)

/-- ITS FALSE NEIGHBOUR: 'it returns false'. Refute it at one input. -/
def boundAtomsWrong : ChangeSpec := { name := "boundAtoms", fn := fun _ => fun
  | [d] => { results := [.lit (.bool false)], args := [d] }
  | _ => none }
def BoundAtomsWrongFalsely : Prop := boundAtomsRow.holds Try.pinned (OpenSpec.ofChange boundAtomsWrong)

/-- 'handcartlaw27.FrameReads': WHATEVER THE INPUT: true; the input reads as it did. -/
def frameReadsSpec : ChangeSpec := { name := "frameReads", fn := fun _ => fun
  | [d] => { results := [.lit (.bool true)], args := [d] }
  | _ => none }
def frameReadsRow : OpenClaim := { program := "ytogdbccfkbbcaaa", sum := "b86384c46e7a82724219d7b7c8735a32ff2229af979a850d90028f4b54869a0f", func := "handcart/handcartlaw27.FrameReads", spec := "frameReads", unfollowed := true, recurses := true, apart := false }
def FrameReadsSaid : Prop := frameReadsRow.holds Try.pinned (OpenSpec.ofChange frameReadsSpec)

/-- ITS FALSE NEIGHBOUR: 'it returns false'. Refute it at one input. -/
def frameReadsWrong : ChangeSpec := { name := "frameReads", fn := fun _ => fun
  | [d] => { results := [.lit (.bool false)], args := [d] }
  | _ => none }
def FrameReadsWrongFalsely : Prop := frameReadsRow.holds Try.pinned (OpenSpec.ofChange frameReadsWrong)

/-- 'handcartlaw27.FrameTurned': WHATEVER THE INPUT: true; the input reads as it did. -/
def frameTurnedSpec : ChangeSpec := { name := "frameTurned", fn := fun _ => fun
  | [d1, d2, d3] => { results := [.lit (.bool true)], args := [d1, d2, d3] }
  | _ => none }
def frameTurnedRow : OpenClaim := { program := "ytogdbccfkbbcaaa", sum := "b86384c46e7a82724219d7b7c8735a32ff2229af979a850d90028f4b54869a0f", func := "handcart/handcartlaw27.FrameTurned", spec := "frameTurned", unfollowed := true, recurses := true, apart := false }
def FrameTurnedSaid : Prop := frameTurnedRow.holds Try.pinned (OpenSpec.ofChange frameTurnedSpec)

/-- ITS FALSE NEIGHBOUR: 'it returns false'. Refute it at one input. -/
def frameTurnedWrong : ChangeSpec := { name := "frameTurned", fn := fun _ => fun
  | [d1, d2, d3] => { results := [.lit (.bool false)], args := [d1, d2, d3] }
  | _ => none }
def FrameTurnedWrongFalsely : Prop := frameTurnedRow.holds Try.pinned (OpenSpec.ofChange frameTurnedWrong)

/-- 'handcartlaw27.FrameBack': WHATEVER THE INPUT: true; the input reads as it did. -/
def frameBackSpec : ChangeSpec := { name := "frameBack", fn := fun _ => fun
  | [d1, d2] => { results := [.lit (.bool true)], args := [d1, d2] }
  | _ => none }
def frameBackRow : OpenClaim := { program := "ytogdbccfkbbcaaa", sum := "b86384c46e7a82724219d7b7c8735a32ff2229af979a850d90028f4b54869a0f", func := "handcart/handcartlaw27.FrameBack", spec := "frameBack", unfollowed := true, recurses := true, apart := false }
def FrameBackSaid : Prop := frameBackRow.holds Try.pinned (OpenSpec.ofChange frameBackSpec)

/-- ITS FALSE NEIGHBOUR: 'it returns false'. Refute it at one input. -/
def frameBackWrong : ChangeSpec := { name := "frameBack", fn := fun _ => fun
  | [d1, d2] => { results := [.lit (.bool false)], args := [d1, d2] }
  | _ => none }
def FrameBackWrongFalsely : Prop := frameBackRow.holds Try.pinned (OpenSpec.ofChange frameBackWrong)

/-- 'handcartlaw27.FrameCodes': WHATEVER THE INPUT: true; the input reads as it did. -/
def frameCodesSpec : ChangeSpec := { name := "frameCodes", fn := fun _ => fun
  | [d1, d2, d3] => { results := [.lit (.bool true)], args := [d1, d2, d3] }
  | _ => none }
def frameCodesRow : OpenClaim := { program := "ytogdbccfkbbcaaa", sum := "b86384c46e7a82724219d7b7c8735a32ff2229af979a850d90028f4b54869a0f", func := "handcart/handcartlaw27.FrameCodes", spec := "frameCodes", unfollowed := true, recurses := true, apart := false }
def FrameCodesSaid : Prop := frameCodesRow.holds Try.pinned (OpenSpec.ofChange frameCodesSpec)

/-- ITS FALSE NEIGHBOUR: 'it returns false'. Refute it at one input. -/
def frameCodesWrong : ChangeSpec := { name := "frameCodes", fn := fun _ => fun
  | [d1, d2, d3] => { results := [.lit (.bool false)], args := [d1, d2, d3] }
  | _ => none }
def FrameCodesWrongFalsely : Prop := frameCodesRow.holds Try.pinned (OpenSpec.ofChange frameCodesWrong)

/- THE SECOND FORM. 'bulk': how many values and letters a reading holds, each counted each time it is reached (what is shared counts as often as it is met; a slice's spare places count too). A statement '..UptoSaid' is the law's where the arguments, and the package variables that the reading takes, are together of bulk at most 1048576: NARROWER than '..Said'. Prove '..Said' where nothing that the law and all that it calls make is longer than what came in: it says more and counts as full. Else prove '..UptoSaid'. A law counts once. -/
mutual
def uptoBulk {H : Type} : DataW H → Nat
  | .lit (.string bytes) => bytes.length + 1
  | .lit _ => 1
  | .nil => 1
  | .ptr d => uptoBulk d + 1
  | .slice elems spare => uptoBulkAll elems + uptoBulkAll spare + 1
  | .agg parts => uptoBulkAll parts + 1
  | .iface _ d => uptoBulk d + 1
  | .map entries => uptoBulkEntries entries + 1
  | .held _ => 1
def uptoBulkAll {H : Type} : List (DataW H) → Nat
  | [] => 0
  | d :: r => uptoBulk d + uptoBulkAll r
def uptoBulkEntries {H : Type} : List (Lit × DataW H) → Nat
  | [] => 0
  | x :: r => uptoBulkEntry x + uptoBulkEntries r
def uptoBulkEntry {H : Type} : Lit × DataW H → Nat
  | (.string bytes, d) => bytes.length + uptoBulk d + 1
  | (_, d) => uptoBulk d + 1
 end
def uptoSmall : (H : Type) → List (DataW H) → Bool := fun _ ds => decide (uptoBulkAll ds ≤ 1048576)
def OpenSpec.upto (s : _root_.Go.ChangeSpec) : _root_.Go.OpenSpec := { _root_.Go.OpenSpec.ofChange s with cond := some uptoSmall }

/-- 'handcartlaw34.BoundAtoms', WHERE WHAT IT READS IS OF BULK AT MOST 1048576: true; the input reads as it did. -/
def boundAtomsUptoRow : OpenClaim := { program := "ytogdbccfkbbcaaa", sum := "b86384c46e7a82724219d7b7c8735a32ff2229af979a850d90028f4b54869a0f", func := "handcart/handcartlaw34.BoundAtoms", spec := "boundAtoms", unfollowed := true, recurses := true, apart := false, narrowed := true }
def BoundAtomsUptoSaid : Prop := boundAtomsUptoRow.holds Try.pinned (OpenSpec.upto boundAtomsSpec)

/-- 'handcartlaw27.FrameReads', WHERE WHAT IT READS IS OF BULK AT MOST 1048576: true; the input reads as it did. -/
def frameReadsUptoRow : OpenClaim := { program := "ytogdbccfkbbcaaa", sum := "b86384c46e7a82724219d7b7c8735a32ff2229af979a850d90028f4b54869a0f", func := "handcart/handcartlaw27.FrameReads", spec := "frameReads", unfollowed := true, recurses := true, apart := false, narrowed := true }
def FrameReadsUptoSaid : Prop := frameReadsUptoRow.holds Try.pinned (OpenSpec.upto frameReadsSpec)

/-- 'handcartlaw27.FrameTurned', WHERE WHAT IT READS IS OF BULK AT MOST 1048576: true; the input reads as it did. -/
def frameTurnedUptoRow : OpenClaim := { program := "ytogdbccfkbbcaaa", sum := "b86384c46e7a82724219d7b7c8735a32ff2229af979a850d90028f4b54869a0f", func := "handcart/handcartlaw27.FrameTurned", spec := "frameTurned", unfollowed := true, recurses := true, apart := false, narrowed := true }
def FrameTurnedUptoSaid : Prop := frameTurnedUptoRow.holds Try.pinned (OpenSpec.upto frameTurnedSpec)

/-- 'handcartlaw27.FrameBack', WHERE WHAT IT READS IS OF BULK AT MOST 1048576: true; the input reads as it did. -/
def frameBackUptoRow : OpenClaim := { program := "ytogdbccfkbbcaaa", sum := "b86384c46e7a82724219d7b7c8735a32ff2229af979a850d90028f4b54869a0f", func := "handcart/handcartlaw27.FrameBack", spec := "frameBack", unfollowed := true, recurses := true, apart := false, narrowed := true }
def FrameBackUptoSaid : Prop := frameBackUptoRow.holds Try.pinned (OpenSpec.upto frameBackSpec)

/-- 'handcartlaw27.FrameCodes', WHERE WHAT IT READS IS OF BULK AT MOST 1048576: true; the input reads as it did. -/
def frameCodesUptoRow : OpenClaim := { program := "ytogdbccfkbbcaaa", sum := "b86384c46e7a82724219d7b7c8735a32ff2229af979a850d90028f4b54869a0f", func := "handcart/handcartlaw27.FrameCodes", spec := "frameCodes", unfollowed := true, recurses := true, apart := false, narrowed := true }
def FrameCodesUptoSaid : Prop := frameCodesUptoRow.holds Try.pinned (OpenSpec.upto frameCodesSpec)

end Rows
end Go.Proofs.Ytogdbccfkbbcaaa
