/- The walks of package frame: errors in turn. -/
import Derived.Test.YtogdbccfkbbcaaaMem2
namespace Go.Proofs.Ytogdbccfkbbcaaa
open Go.RowKit
theorem runCallFunc {P : Program} {f : FuncId} {fn : Func} (hf : P.funcs[f]? = some fn) (h1 : (fn.name == "runtime.NumGoroutine") = false) (h2 : fn.body.isNone = false) (args : Array Value) (W : World) :
    (callFunc f args).run P W = .ok (.enter f args) W := by
  have h1' : ¬ fn.name = "runtime.NumGoroutine" := by simpa using h1
  have h2' : ¬ fn.body = none := by intro h; rw [h] at h2; cases h2
  simp [callFunc, hf, h1', h2']
theorem cf1 (args : Array Value) (W : World) : (callFunc 74 args).run Try.prog W = .ok (.enter 74 args) W :=
  runCallFunc Try.func74 (by kernel_rfl) (by kernel_rfl) args W
/-- The first error of some. -/
def firstE : List Nat → Nat
  | [] => 0
  | e :: r => if e ≠ 0 then e else firstE r
theorem firstE_skip (l : List Nat) : ∀ k, (∀ j, j < k → l[j]? = some 0 ∨ l[j]? = none) → firstE l = firstE (l.drop k) := by
  induction l with
  | nil => intro k _; simp
  | cons e r ih =>
    intro k hk
    cases k with
    | zero => rfl
    | succ k =>
      have h0 := hk 0 (by omega)
      simp at h0
      subst h0
      show (if (0 : Nat) ≠ 0 then 0 else firstE r) = _
      rw [if_neg (by omega), List.drop_succ_cons]
      exact ih k (fun j hj => by have := hk (j + 1) (by omega); simpa using this)
set_option maxRecDepth 100000 in
theorem first_calls (es : List Nat) (n : Nat) (hn : es.length = n) (hn2 : n ≤ 1000) (b : Nat) (f : Nat → FuncId) (a p : Nat → Array Value) (Inv : World → Prop) (w : World)
    (hcf : ∀ i, i < n → ∀ (args : Array Value) (W : World), (callFunc (f i) args).run Try.prog W = .ok (.enter (f i) args) W)
    (hcell : ∀ i, i < n → ∀ W, Inv W → W.cell? ⟨b, i, none⟩ = some (.func (.func (f i)) (a i) (p i)))
    (hf : ∀ i e, es[i]? = some e → ∀ W, Inv W → Calls Try.prog (f i) (a i ++ p i) W fun r W' => r = .returned (.int .i64 (e : Int)) ∧ Inv W') (hI : Inv w) :
    Calls Try.prog 33 #[.slice (some ⟨b, 0, none⟩) n n] w fun r w' => r = .returned (.int .i64 (firstE es : Int)) ∧ Inv w' := by
  go_enter Try.func33, Try.ntmps33
  go_wp2
  go_loopw [8] (fun i wr => ∃ k : Nat, k ≤ n ∧ i = .int .i64 k ∧ Inv wr ∧ Hid (firstE es = firstE (es.drop k))) (fun i _ => n - (intOf i).toNat)
  case atStart => exact ⟨0, by omega, rfl, hI, rfl⟩
  case round =>
    obtain ⟨k, hk, rfl, hIr, HE⟩ := hrel
    have HN := Lib.hid hn
    clear hn
    by_cases hlt : k < n
    · have hd : decide ((k : Int) < n) = true := by simp; omega
      have hd' : decide (k < n) = true := by simp; omega
      have hc := hcell k hlt wr hIr
      obtain ⟨e, he⟩ : ∃ e, es[k]? = some e := ⟨_, List.getElem?_eq_getElem (by have := HN.out; omega)⟩
      have HF := Lib.hid (hf k e he wr hIr)
      have HR := Lib.hid he
      clear he hcell hf
      have hcf1 := hcf k hlt
      clear hcf
      go_wp2_with fail
      refine HF.out.mono ?_
      rintro r w1 ⟨rfl, hI1⟩
      by_cases h0 : e = 0
      · subst h0
        have hnx : Hid (firstE es = firstE (es.drop (k + 1))) := by
          show _ = _
          rw [HE.out]
          have hk' : k < es.length := by have := HN.out; omega
          rw [List.drop_eq_getElem_cons hk']
          have h1 : es[k] = 0 := by have := HR.out; rw [List.getElem?_eq_getElem hk'] at this; simpa using this
          rw [h1]
          show (if (0 : Nat) ≠ 0 then 0 else _) = _
          rw [if_neg (by omega)]
        go_wp2
        go_roundw
        case rel => exact ⟨k + 1, by omega, by go_num, hI1, hnx⟩
        case measure => simp [intOf]; omega
      · have ht : ((e : Int) != 0) = true := by simp; omega
        have hnx : Hid (firstE es = e) := by
          show _ = _
          rw [HE.out]
          have hk' : k < es.length := by have := HN.out; omega
          rw [List.drop_eq_getElem_cons hk']
          have h1 : es[k] = e := by have := HR.out; rw [List.getElem?_eq_getElem hk'] at this; simpa using this
          rw [h1]
          show (if e ≠ 0 then e else _) = _
          rw [if_pos h0]
        go_wp2
        go_ret
        exact ⟨by rw [hnx.out]; rfl, hI1⟩
    · obtain rfl : k = n := by omega
      have hd : decide ((k : Int) < k) = false := by simp
      have hd' : decide (k < k) = false := by simp
      have hnx : Hid (firstE es = 0) := by
        show _ = _
        rw [HE.out, List.drop_eq_nil_of_le (by have := HN.out; omega)]
        rfl
      clear hcell hf hcf
      go_wp2
      go_ret
      exact ⟨by rw [hnx.out]; rfl, hIr⟩
theorem unless_calls (g : FuncId) (fa pa : Array Value) (e : Nat) (w : World) :
    Calls Try.prog 35 #[.func (.func g) fa pa, .int .i64 (e : Int)] w fun r w' => r = .returned (.func (.func 74) #[] #[.pointer (some ⟨w.heap.size, 0, none⟩), .pointer (some ⟨w.heap.size + 1, 0, none⟩)]) ∧
      w'.heap.size = w.heap.size + 2 ∧ Blk w' w.heap.size 34 #[.func (.func g) fa pa] ∧ Blk w' (w.heap.size + 1) 39 #[.int .i64 (e : Int)] ∧ Below w.heap.size w w' := by
  go_enter Try.func35, Try.ntmps35
  go_wp2
  go_ret
  exact ⟨rfl, by simp, (Blk.new _ _ _).alloc _, (by have h := Blk.new (w.alloc (.cells #[.func (.func g) fa pa] 34)) 39 #[.int .i64 (e : Int)]; rw [World.size_alloc] at h; exact h), ((Below.refl _ _).alloc (Nat.le_refl _) _).alloc (by simp) _⟩
/-- What a thing that 'unless' made answers. -/
theorem unless1_calls (g : FuncId) (fa pa : Array Value) (e p q : Nat) (v : Bool) (w : World) (h1 : w.cell? ⟨p, 0, none⟩ = some (.func (.func g) fa pa)) (h2 : w.cell? ⟨q, 0, none⟩ = some (.int .i64 (e : Int)))
    (hcf : ∀ (args : Array Value) (W : World), (callFunc g args).run Try.prog W = .ok (.enter g args) W) (hg : Calls Try.prog g (fa ++ pa) w fun r w' => r = .returned (.bool v) ∧ w = w') :
    Calls Try.prog 74 #[.pointer (some ⟨p, 0, none⟩), .pointer (some ⟨q, 0, none⟩)] w fun r w' => r = .returned (.int .i64 ((if v then 0 else e : Nat) : Int)) ∧ w = w' := by
  have HG := Lib.hid hg
  clear hg
  cases v
  · go_enter Try.func74, Try.ntmps74
    go_wp2_with fail
    refine HG.out.mono ?_
    rintro r w1 ⟨rfl, rfl⟩
    go_wp2
    go_ret
    exact ⟨rfl, rfl⟩
  · go_enter Try.func74, Try.ntmps74
    go_wp2_with fail
    refine HG.out.mono ?_
    rintro r w1 ⟨rfl, rfl⟩
    go_wp2
    go_ret
    exact ⟨rfl, rfl⟩
end Go.Proofs.Ytogdbccfkbbcaaa
