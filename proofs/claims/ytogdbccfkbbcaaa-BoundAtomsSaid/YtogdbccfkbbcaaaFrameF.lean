/- The walks of package frame: the errors of Decode, in turn. -/
import Derived.Test.YtogdbccfkbbcaaaFrameE
import Derived.Test.YtogdbccfkbbcaaaCursorB
namespace Go.Proofs.Ytogdbccfkbbcaaa
open Go.RowKit
set_option linter.unusedSimpArgs false
theorem truth_same (b : Bool) (w : World) :
    Calls Try.prog 31 #[.bool b] w fun r w' => r = .returned (.int .u8 ((bit8 b).toNat : Int)) ∧ w' = w := (truth_calls b w).mono fun _ _ h => ⟨h.1, h.2.symm⟩
theorem dec2_calls (v : UInt8) (L : Nat) (w : World) (hL : Blk w L 5 #[.int .u8 (v.toNat : Int)]) :
    Calls Try.prog 36 #[.pointer (some ⟨L, 0, none⟩)] w fun r w' => r = .returned (.bool (decide (v.toNat ≤ 1))) ∧ ∃ m, w' = w.drewN m := by
  have h0 := hL.cell 0
  simp at h0
  go_enter Try.func36, Try.ntmps36
  go_wp2_with fail
  go_quiet ((go_at_call 31; exact Calls.quiet_of_same (truth_same true _)))
  go_wp2
  go_ret
  exact ⟨rfl, _, rfl⟩
theorem unless1_drew (g : FuncId) (fa pa : Array Value) (e p q : Nat) (v : Bool) (w : World) (h1 : w.cell? ⟨p, 0, none⟩ = some (.func (.func g) fa pa)) (h2 : w.cell? ⟨q, 0, none⟩ = some (.int .i64 (e : Int)))
    (hcf : ∀ (args : Array Value) (W : World), (callFunc g args).run Try.prog W = .ok (.enter g args) W) (hg : Calls Try.prog g (fa ++ pa) w fun r w' => r = .returned (.bool v) ∧ ∃ m, w' = w.drewN m) :
    Calls Try.prog 74 #[.pointer (some ⟨p, 0, none⟩), .pointer (some ⟨q, 0, none⟩)] w fun r w' => r = .returned (.int .i64 ((if v then 0 else e : Nat) : Int)) ∧ ∃ m, w' = w.drewN m := by
  have HG := Lib.hid hg
  clear hg
  cases v <;>
  · go_enter Try.func74, Try.ntmps74
    go_wp2_with fail
    refine HG.out.mono ?_
    rintro r w1 ⟨rfl, m, rfl⟩
    go_wp2
    go_ret
    exact ⟨rfl, m, rfl⟩
theorem dec3_calls (f : Fr) (A : Option Addr) (n c F : Nat) (hn : f.data.length = n) (w : World) (hF : Blk w F 38 #[.int .u8 (f.kind.toNat : Int), .int .u8 (f.frm.toNat : Int), .int .u8 (f.too.toNat : Int), .int .u32 (f.sess : Int), .int .u32 (f.seq : Int), .int .u8 (f.part.toNat : Int), .int .u32 (f.off : Int), .bool f.last, .slice A n c]) :
    Calls Try.prog 38 #[.pointer (some ⟨F, 0, none⟩)] w fun r w' => r = .returned (.int .i64 (checkE f : Int)) ∧ Below w.heap.size w w' := by
  obtain ⟨k0, k1, k2, k3, k4, k5, k6, k7, k8⟩ := frCells hF
  have HN := Lib.hid hn
  clear hn
  go_enter Try.func38, Try.ntmps38
  go_wp2_with fail
  refine (check_calls f A n c HN.out _).mono ?_
  rintro r w1 ⟨rfl, hb⟩
  have HB := Lib.hid hb
  clear hb k0 k1 k2 k3 k4 k5 k6 k7 k8
  go_wp2
  go_ret
  exact ⟨rfl, HB.out⟩
/-- What bytes ahead of a sum are read as: the frame, and the errors in turn. -/
structure Rest where
  fr : Fr
  last : UInt8
  e : Nat
  l : List UInt8
def restE (r : Rest) : Nat := firstE [r.e, if decide (r.last.toNat ≤ 1) then 0 else 3, doneR r.e r.l, checkE r.fr]
theorem first4_calls (D b sp sq p F L e n c : Nat) (A : Option Addr) (l : List UInt8) (v : UInt8) (f : Fr) (hn : f.data.length = n) (W : World)
    (hb : Blk W b 65 #[.func (.func 34) #[.pointer (some ⟨p, 0, none⟩)] #[], .func (.func 74) #[] #[.pointer (some ⟨sp, 0, none⟩), .pointer (some ⟨sq, 0, none⟩)], .func (.func 37) #[.pointer (some ⟨p, 0, none⟩)] #[], .func (.func 38) #[] #[.pointer (some ⟨F, 0, none⟩)]])
    (hsp : Blk W sp 34 #[.func (.func 36) #[] #[.pointer (some ⟨L, 0, none⟩)]]) (hsq : Blk W sq 39 #[.int .i64 3]) (hL : Blk W L 5 #[.int .u8 (v.toNat : Int)]) (hF : Blk W F 38 #[.int .u8 (f.kind.toNat : Int), .int .u8 (f.frm.toNat : Int), .int .u8 (f.too.toNat : Int), .int .u32 (f.sess : Int), .int .u32 (f.seq : Int), .int .u8 (f.part.toNat : Int), .int .u32 (f.off : Int), .bool f.last, .slice A n c]) (hc : Cur W D p e l) :
    Calls Try.prog 33 #[.slice (some ⟨b, 0, none⟩) 4 4] W fun r W' => r = .returned (.int .i64 (restE ⟨f, v, e, l⟩ : Int)) ∧ Below W.heap.size W W' := by
  refine first_calls [e, if decide (v.toNat ≤ 1) then 0 else 3, doneR e l, checkE f] 4 rfl (by omega) b
    (fun i => if i = 0 then 34 else if i = 1 then 74 else if i = 2 then 37 else 38)
    (fun i => if i = 0 then #[.pointer (some ⟨p, 0, none⟩)] else if i = 1 then #[] else if i = 2 then #[.pointer (some ⟨p, 0, none⟩)] else #[])
    (fun i => if i = 0 then #[] else if i = 1 then #[.pointer (some ⟨sp, 0, none⟩), .pointer (some ⟨sq, 0, none⟩)] else if i = 2 then #[] else #[.pointer (some ⟨F, 0, none⟩)])
    (fun V => Below W.heap.size W V) W ?_ ?_ ?_ (Below.refl _ _)
  · intro i hi args V
    match i, hi with
    | 0, _ => exact runCallFunc Try.func34 (by kernel_rfl) (by kernel_rfl) args V
    | 1, _ => exact runCallFunc Try.func74 (by kernel_rfl) (by kernel_rfl) args V
    | 2, _ => exact runCallFunc Try.func37 (by kernel_rfl) (by kernel_rfl) args V
    | 3, _ => exact runCallFunc Try.func38 (by kernel_rfl) (by kernel_rfl) args V
  · intro i hi V hV
    have h := (hb.below hV hb.lt).cell i
    rw [h]
    match i, hi with
    | 0, _ => rfl
    | 1, _ => rfl
    | 2, _ => rfl
    | 3, _ => rfl
  · intro i e' he V hV
    match i, he with
    | 0, he =>
      simp only [List.getElem?_cons_zero, Option.some.injEq] at he
      subst he
      exact (errof_calls p _ l V (hc.below hV)).mono fun r W' h => ⟨h.1, h.2 ▸ hV⟩
    | 1, he =>
      simp only [List.getElem?_cons_zero, List.getElem?_cons_succ, Option.some.injEq] at he
      subst he
      exact (unless1_drew 36 #[] #[.pointer (some ⟨L, 0, none⟩)] 3 _ _ (decide (v.toNat ≤ 1)) _ (by rw [(hsp.below hV hsp.lt).cell]; rfl) (by rw [(hsq.below hV hsq.lt).cell]; rfl) (fun args W => runCallFunc Try.func36 (by kernel_rfl) (by kernel_rfl) args W) (dec2_calls v L _ (hL.below hV hL.lt))).mono fun r W' ⟨h1, m, h2⟩ => ⟨h1, h2 ▸ below_drewN hV m⟩
    | 2, he =>
      simp only [List.getElem?_cons_zero, List.getElem?_cons_succ, Option.some.injEq] at he
      subst he
      exact (done_calls p _ l V (hc.below hV)).mono fun r W' h => ⟨h.1, h.2 ▸ hV⟩
    | 3, he =>
      simp only [List.getElem?_cons_zero, List.getElem?_cons_succ, Option.some.injEq] at he
      subst he
      exact (dec3_calls f A n c F hn V (hF.below hV hF.lt)).mono fun r W' h => ⟨h.1, hV.trans (h.2.mono hV.size)⟩
    | k + 4, he => simp at he
end Go.Proofs.Ytogdbccfkbbcaaa
