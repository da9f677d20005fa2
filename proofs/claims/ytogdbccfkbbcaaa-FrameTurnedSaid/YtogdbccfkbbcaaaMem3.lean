/- Words for memory: a slice that this call made, and writes. -/
import Derived.Test.YtogdbccfkbbcaaaMem2
namespace Go.Proofs.Ytogdbccfkbbcaaa
open Go.RowKit
/-- Block g is this call's own, its first cells are these. -/
def Ow {α : Type} (enc : α → Value) (w : World) (e : TypeId) (g : Nat) (l : List α) : Prop := ∃ cur, Blk w g e cur ∧ cur.toList.take l.length = l.map enc
section
variable {α : Type} {enc : α → Value} {w w' : World} {e : TypeId} {g : Nat} {l : List α}
theorem Ow.get (h : Ow enc w e g l) {i : Nat} {x : α} (hx : l[i]? = some x) : w.cell? ⟨g, i, none⟩ = some (enc x) := by
  obtain ⟨cur, hb, ht⟩ := h
  obtain ⟨hi, rfl⟩ := List.getElem?_eq_some_iff.1 hx
  rw [hb.cell]
  have h1 := congrArg (fun z : List Value => z[i]?) ht
  simp only [List.getElem?_take, if_pos hi, List.getElem?_map, hx, Option.map_some] at h1
  simpa using h1
theorem Ow.rd (h : Ow enc w e g l) {S : Nat → Prop} (hS : S g) : Rd enc w S (some ⟨g, 0, none⟩) l :=
  fun _ => ⟨g, 0, rfl, hS, fun j hj => by rw [Nat.zero_add]; exact h.get (List.getElem?_eq_getElem hj)⟩
theorem Ow.frozen (h : Ow enc w e g l) (i : Nat) : w.frozen? ⟨g, i, none⟩ = false := by
  obtain ⟨cur, hb, _⟩ := h
  exact hb.frozen i
theorem Ow.drew (h : Ow enc w e g l) : Ow enc w.drew e g l := h
theorem Ow.drewN (h : Ow enc w e g l) (n : Nat) : Ow enc (w.drewN n) e g l := h
theorem Ow.lt (h : Ow enc w e g l) : g < w.heap.size := by
  obtain ⟨cur, hb, _⟩ := h
  exact hb.lt
theorem Ow.alloc (h : Ow enc w e g l) (o : Obj) : Ow enc (w.alloc o) e g l := by
  obtain ⟨cur, hb, ht⟩ := h
  exact ⟨cur, hb.alloc o, ht⟩
theorem Ow.below {B : Nat} (h : Ow enc w e g l) (hb : Below B w w') (hg : g < B) : Ow enc w' e g l := by
  obtain ⟨cur, h1, ht⟩ := h
  exact ⟨cur, h1.below hb hg, ht⟩
/-- A cell of it, written. -/
theorem Ow.set_ (h : Ow enc w e g l) (i : Nat) (x : α) : Ow enc (w.setCell ⟨g, i, none⟩ (enc x)) e g (l.set i x) := by
  obtain ⟨cur, hb, ht⟩ := h
  refine ⟨_, hb.set_ i _, ?_⟩
  rw [List.length_set, List.map_set, ← ht]
  rw [Array.toList_setIfInBounds, List.take_set]
end
section
variable {P : Program} (w : World)
/-- 'append([]T{}, xs...)' of some xs: a copy, in a new block of its own. -/
theorem run_append_own {α : Type} {enc : α → Value} {S : Nat → Prop} (t ty e : TypeId) (i : TypeInfo) (z : Value) (bytes : Nat) (ht : P.underlying t = some (.slice e)) (hi : P.info? e = some i) (hz : i.zero = some z)
    (hsize : i.size = 1) (hby : i.bytes = bytes) (hzs : z.cells.size = 1) (b : Addr)
    (A : Option Addr) (m c : Nat) (l : List α) (hm : l.length = m) (h0 : 0 < m) (hr : Rd enc w S A l) (h63 : m ≤ maxLen) (hbytes : m * bytes ≤ 140737488355328) :
    ∃ g c' w', (Builtin.append_ #[t, t] ty #[.slice (some b) 0 0, .slice A m c]).run P w = .ok (.slice (some ⟨g, 0, none⟩) m c') w' ∧ m ≤ c' ∧ w.heap.size ≤ g ∧ Ow enc w' e g l ∧ Below w.heap.size w w' := by
  subst hm
  obtain ⟨b1, o1, rfl, _, _⟩ := hr h0
  obtain ⟨v', w', hrun, h2, h3⟩ := run_append_arg_grows (P := P) w t ty e i z 1 bytes ht hi hz hsize hby hzs (by omega) b 0 0 [] rfl (fun j u h => by simp at h) ⟨b1, o1, none⟩ l.length c (l.map enc) (by simp) hr.from_ (by omega) (by omega) (by rw [Nat.zero_add]; exact hbytes)
  rw [Nat.zero_add, List.nil_append] at h2
  have hB := below_of_grown h3 (Nat.le_refl _) (fun k hk => by cases hk)
  rcases h2.2 with ⟨rfl, hn⟩ | ⟨g, c', cur, rfl, hg, hb, hle, _, _, ht⟩
  · omega
  · rw [Nat.mul_one] at ht
    exact ⟨g, c', w', hrun, hle, hg, ⟨cur, hb, ht⟩, hB⟩
theorem wpList_append_own {ops : Array Oper} {rest : List Oper} {o : Oper} {a : Act} {Q : Exit → Act → World → Prop} (hgd : o.guard = none) (s x : Operand) (t : TypeId)
    (ho : o.op = .call { callee := .builtin .append, args := #[s, x], argTypes := #[t, t] }) {α : Type} {enc : α → Value} {S : Nat → Prop}
    (e : TypeId) (i : TypeInfo) (z : Value) (bytes : Nat) (ht : P.underlying t = some (.slice e)) (hi : P.info? e = some i) (hz : i.zero = some z)
    (hsize : i.size = 1) (hby : i.bytes = bytes) (hzs : z.cells.size = 1)
    (b : Addr) (hs : a.eval s = .slice (some b) 0 0)
    (A : Option Addr) (m c : Nat) (l : List α) (hx : a.eval x = .slice A m c) (hm : l.length = m) (h0 : 0 < m) (hr : Rd enc w S A l) (h63 : m ≤ maxLen) (hbytes : m * bytes ≤ 140737488355328)
    (h : ∀ g c' w', m ≤ c' → w.heap.size ≤ g → Ow enc w' e g l → Below w.heap.size w w' → wpList P ops Q rest (a.put o.dst (.slice (some ⟨g, 0, none⟩) m c')) w') : wpList P ops Q (o :: rest) a w := by
  refine wpList_plain hgd fun K hK => ?_
  obtain ⟨g, c', w', hrun, h2, h3, h4, h5⟩ := run_append_own (P := P) w t o.type e i z bytes ht hi hz hsize hby hzs b A m c l hm h0 hr h63 hbytes
  unfold Oper.wp execOp
  simp only [ho, resolve, invoke, builtin, Sem.run_bind, Sem.run_pure, Result.andThen_ok, List.map_toArray, List.map_cons, List.map_nil, hs, hx, hrun]
  exact hK _ _ (h g c' w' h2 h3 h4 h5)
end
end Go.Proofs.Ytogdbccfkbbcaaa
