/- Words for memory: blocks that are known whole, and slices that read as lists. -/
import Derived.Test.YtogdbccfkbbcaaaProg
import Derived.WalkKit
import Derived.Lib.Hide
import Derived.Laws.OwnMore
import Derived.Deep.Draws
import Derived.Deep.QuietTactic
import Derived.BigQuiet
import Derived.Maps.AppendAt
import Derived.Deep.AppendLies
import Derived.RegionTactic
import Derived.OwnWalk
namespace Go.Proofs.Ytogdbccfkbbcaaa
open Go.RowKit

/-- Block g holds just these cells. -/
def Blk (w : World) (g : Nat) (t : TypeId) (cs : Array Value) : Prop := w.heap[g]? = some (.cells cs t (0, 0))

section
variable {w w' : World} {g : Nat} {t : TypeId} {cs : Array Value}
theorem Blk.out (h : Blk w g t cs) : w.heap[g]? = some (.cells cs t (0, 0)) := h
theorem Blk.lt (h : Blk w g t cs) : g < w.heap.size := by
  rcases Nat.lt_or_ge g w.heap.size with hlt | hge
  · exact hlt
  · unfold Blk at h; rw [Array.getElem?_eq_none hge] at h; cases h
theorem Blk.cell (h : Blk w g t cs) (i : Nat) : w.cell? ⟨g, i, none⟩ = cs[i]? := cell_of_row w g i cs t (0, 0) h
theorem Blk.frozen (h : Blk w g t cs) (i : Nat) : w.frozen? ⟨g, i, none⟩ = false := by
  unfold Blk at h
  simp [World.frozen?, h]
theorem Blk.new (w : World) (t : TypeId) (cs : Array Value) : Blk (w.alloc (.cells cs t)) w.heap.size t cs := heap_alloc_new w _
theorem Blk.drew (h : Blk w g t cs) : Blk w.drew g t cs := h
theorem Blk.drewN (h : Blk w g t cs) (n : Nat) : Blk (w.drewN n) g t cs := h
theorem Blk.alloc (h : Blk w g t cs) (o : Obj) : Blk (w.alloc o) g t cs := (Below.heap_alloc w o g h.lt).trans h
theorem Blk.set_ (h : Blk w g t cs) (i : Nat) (u : Value) : Blk (w.setCell ⟨g, i, none⟩ u) g t (cs.setIfInBounds i u) := by
  unfold Blk at h ⊢
  simp [World.setCell, Array.getElem?_modify, h]
theorem Blk.row (h : Blk w g t cs) (new : Array Value) : Blk (w.setRow g new) g t new := setRow_heap _ _ _ _ _ _ h
theorem Blk.far (h : Blk w g t cs) {p : Addr} (hp : g ≠ p.block) (u : Value) : Blk (w.setCell p u) g t cs := (Below.heap_setCell w p u g hp).trans h
theorem Blk.below {B : Nat} (h : Blk w g t cs) (hb : Below B w w') (hg : g < B) : Blk w' g t cs := (hb.block g hg).trans h
theorem Blk.grown {row : Option Nat} (h : Blk w g t cs) (hb : w.grownBy w' row) (hg : some g ≠ row) : Blk w' g t cs := (hb.block g h.lt hg).trans h
theorem Blk.ne_ {g' : Nat} {t' : TypeId} {cs' : Array Value} (h : Blk w g t cs) (h' : Blk w g' t' cs') (hne : t ≠ t') : g ≠ g' := by
  rintro rfl
  unfold Blk at h h'
  rw [h] at h'
  injection h' with h'
  injection h' with _ ht
  exact hne ht
theorem below_setRow {B : Nat} {a w : World} (h : Below B a w) {g : Nat} (hg : B ≤ g) (cs : Array Value) : Below B a (w.setRow g cs) :=
  h.trans ⟨rfl, rfl, rfl, by simp [World.setRow], fun k hk => by
    simp only [World.setRow, Array.getElem?_modify]
    rw [if_neg (by omega)]⟩
theorem below_drewN {B : Nat} {a w : World} (h : Below B a w) (n : Nat) : Below B a (w.drewN n) := ⟨h.os, h.tape, h.output, h.size, h.block⟩
end

/-- A byte as a value. -/
def B8 (c : UInt8) : Value := .int .u8 (c.toNat : Int)

/-- The slice at A reads as l; what it reads lies in blocks of S. -/
def Rd {α : Type} (enc : α → Value) (w : World) (S : Nat → Prop) (A : Option Addr) (l : List α) : Prop :=
  0 < l.length → ∃ b o, A = some ⟨b, o, none⟩ ∧ S b ∧ ∀ j (h : j < l.length), w.cell? ⟨b, o + j, none⟩ = some (enc l[j])

section
variable {α : Type} {enc : α → Value} {w w' : World} {S S' : Nat → Prop} {A : Option Addr} {l : List α}
theorem Rd.nil : Rd enc w S A [] := fun h => absurd h (by simp)
theorem Rd.at_ (h : Rd enc w S A l) {i : Nat} (hi : i < l.length) : ∃ b o x, A = some ⟨b, o, none⟩ ∧ S b ∧ l[i]? = some x ∧ w.cell? ⟨b, o + i, none⟩ = some (enc x) := by
  obtain ⟨b, o, e, hs, hc⟩ := h (by omega)
  exact ⟨b, o, l[i], e, hs, List.getElem?_eq_getElem hi, hc i hi⟩
/-- The cells that are read, by the address: for every place. -/
theorem Rd.cells {b o : Nat} (h : Rd enc w S (some ⟨b, o, none⟩) l) {i : Nat} {x : α} (hx : l[i]? = some x) : w.cell? ⟨b, o + i, none⟩ = some (enc x) := by
  obtain ⟨hi, rfl⟩ := List.getElem?_eq_some_iff.1 hx
  obtain ⟨b', o', e, _, hc⟩ := h (by omega)
  injection e with e
  injection e with e1 e2
  subst e1; subst e2
  exact hc i hi
theorem take_snoc {k : Nat} {x : α} (hx : l[k]? = some x) : l.take (k + 1) = l.take k ++ [x] := by
  rw [List.take_add_one, hx]; rfl
theorem Rd.keep (h : Rd enc w S A l) (hk : ∀ b, S b → w'.heap[b]? = w.heap[b]?) : Rd enc w' S A l := fun hl => by
  obtain ⟨b, o, e, hs, hc⟩ := h hl
  exact ⟨b, o, e, hs, fun j hj => (World.cell?_of_block (hk b hs)).trans (hc j hj)⟩
theorem Rd.weaken (h : Rd enc w S A l) (hs : ∀ b, S b → S' b) : Rd enc w S' A l := fun hl => by
  obtain ⟨b, o, e, h1, hc⟩ := h hl
  exact ⟨b, o, e, hs b h1, hc⟩
theorem Rd.drop (h : Rd enc w S A l) (k : Nat) : Rd enc w S (A.map (·.add k)) (l.drop k) := fun hl => by
  rw [List.length_drop] at hl
  obtain ⟨b, o, rfl, h1, hc⟩ := h (by omega)
  refine ⟨b, o + k, ?_, h1, fun j hj => ?_⟩
  · simp only [Option.map_some, Addr.add, Option.some.injEq]
    split <;> simp_all
  · rw [Nat.add_assoc]
    rw [List.length_drop] at hj
    rw [hc (k + j) (by omega), List.getElem_drop]
theorem Rd.take (h : Rd enc w S A l) (k : Nat) : Rd enc w S A (l.take k) := fun hl => by
  rw [List.length_take] at hl
  obtain ⟨b, o, rfl, h1, hc⟩ := h (by omega)
  refine ⟨b, o, rfl, h1, fun j hj => ?_⟩
  rw [List.length_take] at hj
  rw [hc j (by omega), List.getElem_take]
/-- What a slice reads lies in blocks that there are. -/
theorem Rd.inside (h : Rd enc w S A l) : Rd enc w (fun b => S b ∧ b < w.heap.size) A l := fun hl => by
  obtain ⟨b, o, e, h1, hc⟩ := h hl
  refine ⟨b, o, e, ⟨h1, ?_⟩, hc⟩
  have := hc 0 hl
  rcases Nat.lt_or_ge b w.heap.size with hlt | hge
  · exact hlt
  · unfold World.cell? at this
    rw [Array.getElem?_eq_none hge] at this
    cases this
theorem Rd.below (h : Rd enc w S A l) (hb : Below w.heap.size w w') : Rd enc w' S A l :=
  (h.inside.keep (fun b hs => hb.block b hs.2)).weaken fun _ hs => hs.1
theorem Rd.below_of {B : Nat} (h : Rd enc w S A l) (hb : Below B w w') (hS : ∀ b, S b → b < B) : Rd enc w' S A l :=
  h.keep fun b hs => hb.block b (hS b hs)
theorem Rd.grown {row : Option Nat} (h : Rd enc w S A l) (hb : w.grownBy w' row) (hS : ∀ b, S b → some b ≠ row) : Rd enc w' S A l :=
  (h.inside.keep (fun b hs => hb.block b hs.2 (hS b hs.1))).weaken fun _ hs => hs.1
theorem Rd.alloc (h : Rd enc w S A l) (o : Obj) : Rd enc (w.alloc o) S A l := h.below ((Below.refl _ _).alloc (Nat.le_refl _) o)
theorem Rd.drew (h : Rd enc w S A l) : Rd enc w.drew S A l := h
theorem Rd.drewN (h : Rd enc w S A l) (n : Nat) : Rd enc (w.drewN n) S A l := h
theorem Rd.far (h : Rd enc w S A l) {p : Addr} (hp : ∀ b, S b → b ≠ p.block) (u : Value) : Rd enc (w.setCell p u) S A l :=
  h.keep fun b hs => Below.heap_setCell w p u b (hp b hs)
theorem Rd.own {base : Nat} {e : TypeId} {v : Value} {n : Nat} (h : w.ownsRow base e 1 v n (l.map enc)) : ∃ A c, v = .slice A n c ∧ n ≤ c ∧ Rd enc w (fun b => base ≤ b) A l := by
  obtain ⟨h1, h2⟩ := h
  have hn : l.length = n := by simpa using h1
  subst hn
  rcases h2 with ⟨rfl, h0⟩ | ⟨g, cap, cur, rfl, hg, hh, hle, hm, hsz, htk⟩
  · exact ⟨none, 0, by rw [h0], by omega, fun hl => absurd hl (by omega)⟩
  · refine ⟨some ⟨g, 0, none⟩, cap, rfl, hle, fun hl => ⟨g, 0, rfl, hg, fun j hj => ?_⟩⟩
    rw [Nat.zero_add, cell_of_row w g j cur e (0, 0) hh]
    have : (cur.toList.take (l.length * 1))[j]? = some (enc l[j]) := by rw [htk]; simp [hj]
    rw [List.getElem?_take] at this
    split at this
    · simpa using this
    · cases this
end

/-- The cells from an address on. -/
theorem Rd.from_ {α : Type} {enc : α → Value} {w : World} {S : Nat → Prop} {ad : Addr} {l : List α} (h : Rd enc w S (some ad) l) : ∀ j u, (l.map enc)[j]? = some u → w.cell? (ad.add j) = some u := by
  intro j u hu
  rw [List.getElem?_map] at hu
  cases hx : l[j]? with
  | none => rw [hx] at hu; cases hu
  | some x =>
    rw [hx] at hu
    injection hu with hu
    subst hu
    obtain ⟨hj, rfl⟩ := List.getElem?_eq_some_iff.1 hx
    obtain ⟨b, o, e, _, hc⟩ := h (by omega)
    injection e with e
    subst e
    rw [← hc j hj]
    congr 1
    unfold Addr.add
    split <;> simp_all

section
variable {P : Program} (w : World)
theorem run_append_nil1 (base : Nat) (t ty e : TypeId) (i : TypeInfo) (ht : P.underlying t = some (.slice e)) (hi : P.info? e = some i)
    (v : Value) (n : Nat) (xs : List Value) (hown : w.ownsRow base e 1 v n xs) (c : Nat) : (Builtin.append_ #[t, t] ty #[v, .slice none 0 c]).run P w = .ok v w := by
  rcases hown.2 with ⟨rfl, rfl⟩ | ⟨g, cap, cur, rfl, _, _, hnc, _⟩
  · simp [Builtin.append_, run_underlying ht, sizeOf, typeInfo, hi, Builtin.lenOf, Builtin.firstCells]
  · simp [Builtin.append_, run_underlying ht, sizeOf, typeInfo, hi, Builtin.lenOf, Builtin.firstCells, hnc, storeCells]

/-- 'append(s, xs...)': s a row of the call's own, xs whatever reads as a list. -/
theorem run_append_rd {α : Type} {enc : α → Value} {S : Nat → Prop} (base : Nat) (t ty e : TypeId) (i : TypeInfo) (z : Value) (bytes : Nat) (ht : P.underlying t = some (.slice e)) (hi : P.info? e = some i) (hz : i.zero = some z)
    (hsize : i.size = 1) (hby : i.bytes = bytes) (hzs : z.cells.size = 1)
    (v : Value) (n : Nat) (xs : List Value) (hown : w.ownsRow base e 1 v n xs)
    (A : Option Addr) (m c : Nat) (l : List α) (hm : l.length = m) (hr : Rd enc w S A l) (h1 : ∀ u, (enc u).oneCell' = true)
    (h63 : n + m ≤ maxLen) (hbytes : (n + m) * bytes ≤ 140737488355328) (hbase : base ≤ w.heap.size) :
    ∃ v' w', (Builtin.append_ #[t, t] ty #[v, .slice A m c]).run P w = .ok v' w' ∧ w'.ownsRow base e 1 v' (n + m) (xs ++ l.map enc) ∧ w.grownBy w' v.ownBlock ∧
      (v'.ownBlock = v.ownBlock ∨ v'.ownBlock = some w.heap.size) := by
  subst hm
  rcases A with _ | ad
  · have hn : l = [] := by
      rcases Nat.eq_zero_or_pos l.length with h0 | h0
      · exact List.eq_nil_of_length_eq_zero h0
      · obtain ⟨b, o, h, _⟩ := hr h0
        cases h
    subst hn
    exact ⟨v, w, run_append_nil1 w base t ty e i ht hi v n xs hown c, by simpa using hown, World.grownBy.refl w _, .inl rfl⟩
  · obtain ⟨v', w', hrun, h2, h3, _, h5⟩ := run_append_own_at (P := P) w base t ty e i z 1 bytes ht hi hz hsize hby hzs (by omega) v n xs hown ad l.length c (l.map enc) (by simp) hr.from_ (fun u hu => by
      obtain ⟨x, _, rfl⟩ := List.mem_map.1 hu
      exact h1 x) h63 hbytes hbase
    exact ⟨v', w', hrun, h2, h3, h5⟩

theorem wpList_append_rd {ops : Array Oper} {rest : List Oper} {o : Oper} {a : Act} {Q : Exit → Act → World → Prop} (hgd : o.guard = none) (s x : Operand) (t : TypeId)
    (ho : o.op = .call { callee := .builtin .append, args := #[s, x], argTypes := #[t, t] }) {α : Type} {enc : α → Value} {S : Nat → Prop}
    (base : Nat) (e : TypeId) (i : TypeInfo) (z : Value) (bytes : Nat) (ht : P.underlying t = some (.slice e)) (hi : P.info? e = some i) (hz : i.zero = some z)
    (hsize : i.size = 1) (hby : i.bytes = bytes) (hzs : z.cells.size = 1)
    (v : Value) (n : Nat) (xs : List Value) (hs : a.eval s = v) (hown : w.ownsRow base e 1 v n xs)
    (A : Option Addr) (m c : Nat) (l : List α) (hx : a.eval x = .slice A m c) (hm : l.length = m) (hr : Rd enc w S A l) (h1 : ∀ u, (enc u).oneCell' = true)
    (h63 : n + m ≤ maxLen) (hbytes : (n + m) * bytes ≤ 140737488355328) (hbase : base ≤ w.heap.size)
    (h : ∀ v' w', w'.ownsRow base e 1 v' (n + m) (xs ++ l.map enc) → w.grownBy w' v.ownBlock → (v'.ownBlock = v.ownBlock ∨ v'.ownBlock = some w.heap.size) → wpList P ops Q rest (a.put o.dst v') w') : wpList P ops Q (o :: rest) a w := by
  refine wpList_plain hgd fun K hK => ?_
  obtain ⟨v', w', hrun, h2, h3, h4⟩ := run_append_rd (P := P) w base t o.type e i z bytes ht hi hz hsize hby hzs v n xs hown A m c l hm hr h1 h63 hbytes hbase
  unfold Oper.wp execOp
  simp only [ho, resolve, invoke, builtin, Sem.run_bind, Sem.run_pure, Result.andThen_ok, List.map_toArray, List.map_cons, List.map_nil, hs, hx, hrun]
  exact hK _ _ (h v' w' h2 h3 h4)
end
theorem info5 : (Try.prog.info? 5).map (fun i => (i.zero, i.size, i.bytes)) = some (some (.int .u8 0), 1, 1) := by kernel_rfl
theorem one8 (c : UInt8) : (B8 c).oneCell' = true := rfl
/-- A row of no elements in a new block. -/
theorem owns_empty (w : World) (base : Nat) (e : TypeId) (hb : base ≤ w.heap.size) : (w.alloc (.cells #[] e)).ownsRow base e 1 (.slice (some ⟨w.heap.size, 0, none⟩) 0 0) 0 [] :=
  ⟨rfl, .inr ⟨w.heap.size, 0, #[], rfl, hb, heap_alloc_new _ _, Nat.le_refl _, by unfold maxLen; omega, rfl, rfl⟩⟩
end Go.Proofs.Ytogdbccfkbbcaaa
