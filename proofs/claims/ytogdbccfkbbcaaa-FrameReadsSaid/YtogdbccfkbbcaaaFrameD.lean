/- The walks of package frame: Decode. -/
import Derived.Test.YtogdbccfkbbcaaaFrameL
import Derived.Deep.DeepCutAuto
import Derived.Deep.RegionHeld3
namespace Go.Proofs.Ytogdbccfkbbcaaa
open Go.RowKit
set_option linter.unusedSimpArgs false
theorem below_p {p : Nat} {a w w' : World} (h : Below a.heap.size a w) (hg : w.grownBy w' (some p)) (hp : a.heap.size ≤ p) : Below a.heap.size a w' :=
  h.grown hg h.size (fun k hk => by injection hk with hk; omega)
/-- What a frame and an error are as results. -/
theorem results_frame {fn : Func} {p q : Tmp} (h : fn.results = #[.cell p 38, .tmp q]) (tmps : Array Value) (w : World) (g : Nat) (cs : Array Value) (v : Value)
    (hp : tmps.getD p undef = .pointer (some ⟨g, 0, none⟩)) (hq : tmps.getD q undef = v) (hg : Blk w g 38 cs) (hs : cs.size = 9) :
    (results fn tmps).run Try.prog w = .ok (.tuple #[.agg cs, v]) w := by
  have hp' : tmps[p]?.getD undef = .pointer (some ⟨g, 0, none⟩) := by simpa using hp
  have hq' : tmps[q]?.getD undef = v := by simpa using hq
  have hl := run_loadVar_row (P := Try.prog) w g 38 38 cs (0, 0) _ hg Try.underlying38 rfl (by rw [hs]; kernel_rfl)
  simp [results, h, hp', hq', asAddr, hl]
set_option maxRecDepth 100000 in
theorem decode_short (A : Option Addr) (l : List UInt8) (n c : Nat) (hn : l.length = n) (w : World) (hl : n < 2) :
    Calls Try.prog 11 #[.slice A n c] w fun r w' => r = .returned (.tuple #[.agg #[.int .u8 (Fr0.kind.toNat : Int), .int .u8 (Fr0.frm.toNat : Int), .int .u8 (Fr0.too.toNat : Int), .int .u32 (Fr0.sess : Int), .int .u32 (Fr0.seq : Int), .int .u8 (Fr0.part.toNat : Int), .int .u32 (Fr0.off : Int), .bool Fr0.last, .slice none 0 0], .int .i64 4]) ∧ Below w.heap.size w w' := by
  subst hn
  have hb0 := Blk.new w 38 #[.int .u8 0, .int .u8 0, .int .u8 0, .int .u32 0, .int .u32 0, .int .u8 0, .int .u32 0, .bool false, .slice none 0 0]
  go_enter Try.func11, Try.ntmps11
  go_wp2_with fail
  refine (open_short A l c _ hl).mono ?_
  rintro r w1 ⟨rfl, rfl⟩
  go_wp2
  exact bodyPost_ret (results_frame rfl _ _ w.heap.size _ _ rfl rfl hb0 rfl) rfl ⟨rfl, (Below.refl _ _).alloc (Nat.le_refl _) _⟩
set_option maxRecDepth 100000 in
theorem decode_sum (A : Option Addr) (l : List UInt8) (c : Nat) (S : Nat → Prop) (w : World) (n : Nat) (x y : UInt8) (hn : l.length = n + 2) (hx : l[n]? = some x) (hy : l[n + 1]? = some y)
    (hne : sumI (l.take n) ≠ (x.toNat : Int) * 256 + (y.toNat : Int)) (hc : l.length ≤ c) (hl : l.length ≤ 1000000) (hr : Rd B8 w S A l) :
    Calls Try.prog 11 #[.slice A (n + 2) c] w fun r w' => r = .returned (.tuple #[.agg #[.int .u8 (Fr0.kind.toNat : Int), .int .u8 (Fr0.frm.toNat : Int), .int .u8 (Fr0.too.toNat : Int), .int .u32 (Fr0.sess : Int), .int .u32 (Fr0.seq : Int), .int .u8 (Fr0.part.toNat : Int), .int .u32 (Fr0.off : Int), .bool Fr0.last, .slice none 0 0], .int .i64 5]) ∧ Below w.heap.size w w' := by
  have hb0 := Blk.new w 38 #[.int .u8 0, .int .u8 0, .int .u8 0, .int .u32 0, .int .u32 0, .int .u8 0, .int .u32 0, .bool false, .slice none 0 0]
  have H := Lib.hid (open_bad A l c S _ n x y hn hx hy hne hc (by omega) (hr.alloc (.cells #[.int .u8 0, .int .u8 0, .int .u8 0, .int .u32 0, .int .u32 0, .int .u8 0, .int .u32 0, .bool false, .slice none 0 0] 38)))
  clear hn hx hy hne hc hl
  go_enter Try.func11, Try.ntmps11
  go_wp2_with fail
  refine H.out.mono ?_
  rintro r w1 ⟨rfl, hb⟩
  have hb1 := hb0.below hb (by simp)
  have HB := Lib.hid (((Below.refl w.heap.size w).alloc (Nat.le_refl _) _).trans (hb.mono (by simp)))
  clear hb
  have hs := HB.out.size
  have z0 := hb1.cell 0
  have z1 := hb1.cell 1
  have z2 := hb1.cell 2
  have z3 := hb1.cell 3
  have z4 := hb1.cell 4
  have z5 := hb1.cell 5
  have z6 := hb1.cell 6
  have z7 := hb1.cell 7
  have z8 := hb1.cell 8
  simp at z0 z1 z2 z3 z4 z5 z6 z7 z8
  have y0 := hb1.frozen 0
  have y1 := hb1.frozen 1
  have y2 := hb1.frozen 2
  have y3 := hb1.frozen 3
  have y4 := hb1.frozen 4
  have y5 := hb1.frozen 5
  have y6 := hb1.frozen 6
  have y7 := hb1.frozen 7
  have y8 := hb1.frozen 8
  go_wp2
  exact bodyPost_ret (results_frame rfl _ _ w.heap.size _ _ rfl rfl (((((((((hb1.set_ 0 _).set_ 1 _).set_ 2 _).set_ 3 _).set_ 4 _).set_ 5 _).set_ 6 _).set_ 7 _).set_ 8 _) rfl) rfl ⟨rfl, (((((((((HB.out.setCell (p := ⟨w.heap.size, 0, none⟩) (Nat.le_refl _) _).setCell (p := ⟨w.heap.size, 1, none⟩) (Nat.le_refl _) _).setCell (p := ⟨w.heap.size, 2, none⟩) (Nat.le_refl _) _).setCell (p := ⟨w.heap.size, 3, none⟩) (Nat.le_refl _) _).setCell (p := ⟨w.heap.size, 4, none⟩) (Nat.le_refl _) _).setCell (p := ⟨w.heap.size, 5, none⟩) (Nat.le_refl _) _).setCell (p := ⟨w.heap.size, 6, none⟩) (Nat.le_refl _) _).setCell (p := ⟨w.heap.size, 7, none⟩) (Nat.le_refl _) _).setCell (p := ⟨w.heap.size, 8, none⟩) (Nat.le_refl _) _)⟩
/-- 'num' of Decode. -/
theorem numc_calls (D p e C : Nat) (l : List UInt8) (w : World) (hc : Cur w D p e l) (hC : w.cell? ⟨C, 0, none⟩ = some (.pointer (some ⟨p, 0, none⟩))) :
    Calls Try.prog 29 #[.pointer (some ⟨C, 0, none⟩)] w fun e' w' => e' = .returned (.int .u32 ((numR 4294967295 e l).1 : Int)) ∧ Cur w' D p (numR 4294967295 e l).2.1 (numR 4294967295 e l).2.2 ∧ w.grownBy w' (some p) := by
  have hle := numR_le_any 4294967295 e l
  go_enter Try.func29, Try.ntmps29
  go_wp2_with fail
  refine (num_reads p e 4294967295 l _ hc).mono ?_
  rintro e w1 ⟨rfl, hc1, hg⟩
  have HG := Lib.hid hg
  clear hg
  go_wp2
  go_ret
  exact ⟨rfl, hc1, HG.out⟩
set_option maxHeartbeats 40000000 in
set_option maxRecDepth 100000 in
theorem decode_main (A : Option Addr) (l : List UInt8) (c : Nat) (S : Nat → Prop) (w : World) (n : Nat) (x y : UInt8) (hn : l.length = n + 2) (hx : l[n]? = some x) (hy : l[n + 1]? = some y)
    (hne : sumI (l.take n) = (x.toNat : Int) * 256 + (y.toNat : Int)) (hc : l.length ≤ c) (hl : l.length ≤ 1000000) (hr : Rd B8 w S A l) :
    Calls Try.prog 11 #[.slice A (n + 2) c] w fun r w' => ∃ A' c', r = .returned (.tuple #[.agg #[.int .u8 ((decR (restR (l.take n))).1.kind.toNat : Int), .int .u8 ((decR (restR (l.take n))).1.frm.toNat : Int), .int .u8 ((decR (restR (l.take n))).1.too.toNat : Int), .int .u32 ((decR (restR (l.take n))).1.sess : Int), .int .u32 ((decR (restR (l.take n))).1.seq : Int), .int .u8 ((decR (restR (l.take n))).1.part.toNat : Int), .int .u32 ((decR (restR (l.take n))).1.off : Int), .bool (decR (restR (l.take n))).1.last, .slice A' (decR (restR (l.take n))).1.data.length c'], .int .i64 ((decR (restR (l.take n))).2 : Int)]) ∧ (decR (restR (l.take n))).1.data.length ≤ c' ∧ Rd B8 w' (fun b => w.heap.size ≤ b) A' (decR (restR (l.take n))).1.data ∧ Below w.heap.size w w' := by
  have hmf : ∀ (fn : Fn) (first cap : Array Value) (w : World), (Instr.makeFunc fn first cap).run Try.prog w = .ok (.func fn first cap) w := fun _ _ _ _ => rfl
  have hb0 := Blk.new w 38 #[.int .u8 0, .int .u8 0, .int .u8 0, .int .u32 0, .int .u32 0, .int .u8 0, .int .u32 0, .bool false, .slice none 0 0]
  have H := Lib.hid (open_good A l c S _ n x y hn hx hy hne hc (by omega) (hr.alloc (.cells #[.int .u8 0, .int .u8 0, .int .u8 0, .int .u32 0, .int .u32 0, .int .u8 0, .int .u32 0, .bool false, .slice none 0 0] 38)))
  have hd : (l.take n).length = n := by rw [List.length_take]; omega
  have HD := Lib.hid hd
  have hn9 : n ≤ 1000000 := by omega
  clear hn hx hy hne hc hl hd hr
  obtain ⟨v1, e1, l1, h1⟩ : ∃ v e l', byteR 0 (l.take n) = (v, e, l') := ⟨_, _, _, rfl⟩
  have H1 := Lib.hid h1
  obtain ⟨v2, e2, l2, h2⟩ : ∃ v e l', byteR e1 l1 = (v, e, l') := ⟨_, _, _, rfl⟩
  have H2 := Lib.hid h2
  obtain ⟨v3, e3, l3, h3⟩ : ∃ v e l', byteR e2 l2 = (v, e, l') := ⟨_, _, _, rfl⟩
  have H3 := Lib.hid h3
  obtain ⟨v4, e4, l4, h4⟩ : ∃ v e l', numR 4294967295 e3 l3 = (v, e, l') := ⟨_, _, _, rfl⟩
  have b4 : v4 ≤ 4294967295 := by have := numR_le_any 4294967295 e3 l3; rw [h4] at this; exact this
  have H4 := Lib.hid h4
  obtain ⟨v5, e5, l5, h5⟩ : ∃ v e l', numR 4294967295 e4 l4 = (v, e, l') := ⟨_, _, _, rfl⟩
  have b5 : v5 ≤ 4294967295 := by have := numR_le_any 4294967295 e4 l4; rw [h5] at this; exact this
  have H5 := Lib.hid h5
  obtain ⟨v6, e6, l6, h6⟩ : ∃ v e l', byteR e5 l5 = (v, e, l') := ⟨_, _, _, rfl⟩
  have H6 := Lib.hid h6
  obtain ⟨v7, e7, l7, h7⟩ : ∃ v e l', numR 4294967295 e6 l6 = (v, e, l') := ⟨_, _, _, rfl⟩
  have b7 : v7 ≤ 4294967295 := by have := numR_le_any 4294967295 e6 l6; rw [h7] at this; exact this
  have H7 := Lib.hid h7
  obtain ⟨v8, e8, l8, h8⟩ : ∃ v e l', byteR e7 l7 = (v, e, l') := ⟨_, _, _, rfl⟩
  have H8 := Lib.hid h8
  obtain ⟨v9, e9, l9, h9⟩ : ∃ v e l', bytesR 65536 e8 l8 = (v, e, l') := ⟨_, _, _, rfl⟩
  have H9 := Lib.hid h9
  have HR : Hid (restR (l.take n) = ⟨⟨v1, v2, v3, v4, v5, v6, v7, v8 == 1, v9⟩, v8, e9, l9⟩) := by
    show _ = _
    simp only [restR, h1, h2, h3, h4, h5, h6, h7, h8, h9]
  clear h1 h2 h3 h4 h5 h6 h7 h8 h9
  go_enter Try.func11, Try.ntmps11
  go_wp2_with fail
  refine H.out.mono ?_
  rintro r W1 ⟨A1, c1, rfl, hc1, hr1, hb⟩
  have hb1 := hb0.below hb (by simp)
  have HB1 := Lib.hid (((Below.refl w.heap.size w).alloc (Nat.le_refl _) _).trans (hb.mono (by simp)))
  have hs1 := hb.size
  simp only [World.size_alloc] at hs1
  clear hb hb0
  go_wp2_with fail
  refine (from_calls A1 (l.take n) n c1 _ _ HD.out (by omega) hr1).mono ?_
  rintro r W2 ⟨p, rfl, hp, hc2, hb2⟩
  have HB2 := Lib.hid (HB1.out.trans (hb2.mono (by omega)))
  have hf2 := hb1.below hb2 (by omega)
  have hpz := hc2.lt
  clear hb2 hb1 hr1 HB1
  have hC2 := Blk.new W2 57 #[.pointer (some ⟨p, 0, none⟩)]
  have hc2' := hc2.below ((Below.refl _ _).alloc (Nat.le_refl _) (.cells #[.pointer (some ⟨p, 0, none⟩)] 57))
  have hf2' := hf2.alloc (.cells #[.pointer (some ⟨p, 0, none⟩)] 57)
  have HB2' := Lib.hid (HB2.out.alloc HB2.out.size (.cells #[.pointer (some ⟨p, 0, none⟩)] 57))
  go_wp2_with fail
  generalize W2.alloc (.cells #[.pointer (some ⟨p, 0, none⟩)] 57) = V0 at hC2 hc2' hf2' HB2' ⊢
  clear hc2 hf2 HB2
  generalize hCC : W2.heap.size = C at hC2 hpz hc2' ⊢
  have hk0 : p < C := hpz
  clear hCC
  have K1 := byte_reads p 0 (l.take n) _ hc2'
  rw [H1.out] at K1
  refine K1.mono ?_
  clear K1
  rintro r V1 ⟨rfl, hcu1, hg⟩
  have hC_1 := hC2.grown hg (by simp; omega)
  have hf_1 := hf2'.grown hg (by simp; omega)
  have HB_1 := Lib.hid (below_p HB2'.out hg (by omega))
  clear hg hc2' HB2'
  go_wp2_with fail
  have K2 := byte_reads p e1 l1 _ hcu1
  rw [H2.out] at K2
  refine K2.mono ?_
  clear K2
  rintro r V2 ⟨rfl, hcu2, hg⟩
  have hC_2 := hC_1.grown hg (by simp; omega)
  have hf_2 := hf_1.grown hg (by simp; omega)
  have HB_2 := Lib.hid (below_p HB_1.out hg (by omega))
  clear hg hcu1 HB_1
  go_wp2_with fail
  have K3 := byte_reads p e2 l2 _ hcu2
  rw [H3.out] at K3
  refine K3.mono ?_
  clear K3
  rintro r V3 ⟨rfl, hcu3, hg⟩
  have hC_3 := hC_2.grown hg (by simp; omega)
  have hf_3 := hf_2.grown hg (by simp; omega)
  have HB_3 := Lib.hid (below_p HB_2.out hg (by omega))
  clear hg hcu2 HB_2
  have hlC := hC_3.lt
  generalize hFF : V3.heap.size = F at hlC
  go_wp2_with fail
  have hC_n3 := hC_3.alloc (.cells #[.int .u8 (v1.toNat : Int), .int .u8 (v2.toNat : Int), .int .u8 (v3.toNat : Int), .int .u32 0, .int .u32 0, .int .u8 0, .int .u32 0, .bool false, .slice none 0 0] 38)
  clear hC_3
  have hf_n3 := hf_3.alloc (.cells #[.int .u8 (v1.toNat : Int), .int .u8 (v2.toNat : Int), .int .u8 (v3.toNat : Int), .int .u32 0, .int .u32 0, .int .u8 0, .int .u32 0, .bool false, .slice none 0 0] 38)
  clear hf_3
  have hF_n3 := Blk.new V3 38 #[.int .u8 (v1.toNat : Int), .int .u8 (v2.toNat : Int), .int .u8 (v3.toNat : Int), .int .u32 0, .int .u32 0, .int .u8 0, .int .u32 0, .bool false, .slice none 0 0]
  have hcu3_n3 := hcu3.below ((Below.refl _ _).alloc (Nat.le_refl _) (.cells #[.int .u8 (v1.toNat : Int), .int .u8 (v2.toNat : Int), .int .u8 (v3.toNat : Int), .int .u32 0, .int .u32 0, .int .u8 0, .int .u32 0, .bool false, .slice none 0 0] 38))
  have HB_3_n3 := Lib.hid (HB_3.out.alloc HB_3.out.size (.cells #[.int .u8 (v1.toNat : Int), .int .u8 (v2.toNat : Int), .int .u8 (v3.toNat : Int), .int .u32 0, .int .u32 0, .int .u8 0, .int .u32 0, .bool false, .slice none 0 0] 38))
  clear hcu3 HB_3
  generalize V3.alloc (.cells #[.int .u8 (v1.toNat : Int), .int .u8 (v2.toNat : Int), .int .u8 (v3.toNat : Int), .int .u32 0, .int .u32 0, .int .u8 0, .int .u32 0, .bool false, .slice none 0 0] 38) = V4 at hC_n3 hf_n3 hF_n3 hcu3_n3 HB_3_n3 ⊢
  rw [hFF] at hF_n3
  clear hFF
  have hlR : w.heap.size < p := by omega
  have hCc := hC_n3.cell 0
  simp at hCc
  have K4 := numc_calls _ p e3 C l3 _ hcu3_n3 hCc
  rw [H4.out] at K4
  refine K4.mono ?_
  clear K4
  rintro r V5 ⟨rfl, hcu4, hg⟩
  have hC_4 := hC_n3.grown hg (by simp; omega)
  have hf_4 := hf_n3.grown hg (by simp; omega)
  have hF_4 := hF_n3.grown hg (by simp; omega)
  have HB_4 := Lib.hid (below_p HB_3_n3.out hg (by omega))
  clear hg hcu3_n3 HB_3_n3
  clear hCc
  go_wp2_with fail
  have hCc := hC_4.cell 0
  simp at hCc
  have K5 := numc_calls _ p e4 C l4 _ hcu4 hCc
  rw [H5.out] at K5
  refine K5.mono ?_
  clear K5
  rintro r V6 ⟨rfl, hcu5, hg⟩
  have hC_5 := hC_4.grown hg (by simp; omega)
  have hf_5 := hf_4.grown hg (by simp; omega)
  have hF_5 := hF_4.grown hg (by simp; omega)
  have HB_5 := Lib.hid (below_p HB_4.out hg (by omega))
  clear hg hcu4 HB_4
  clear hCc
  have fc3 := hF_5.cell 3
  have ff3 := hF_5.frozen 3
  simp at fc3
  have fc4 := hF_5.cell 4
  have ff4 := hF_5.frozen 4
  simp at fc4
  go_wp2_with fail
  clear fc3 ff3 fc4 ff4
  have hC_s6 := ((hC_5.far (p := ⟨F, 3, none⟩) (by simp; omega) (.int .u32 (v4 : Int))).far (p := ⟨F, 4, none⟩) (by simp; omega) (.int .u32 (v5 : Int)))
  have hf_s6 := ((hf_5.far (p := ⟨F, 3, none⟩) (by simp; omega) (.int .u32 (v4 : Int))).far (p := ⟨F, 4, none⟩) (by simp; omega) (.int .u32 (v5 : Int)))
  have hF_s6 := ((hF_5.set_ 3 (.int .u32 (v4 : Int))).set_ 4 (.int .u32 (v5 : Int)))
  simp at hF_s6
  have hcu5_s6 := ((hcu5.far (a := ⟨F, 3, none⟩) (by simp; omega) (by simp; omega) (.int .u32 (v4 : Int))).far (a := ⟨F, 4, none⟩) (by simp; omega) (by simp; omega) (.int .u32 (v5 : Int)))
  have HB_5_s6 := Lib.hid ((HB_5.out.setCell (p := ⟨F, 3, none⟩) (by simp; omega) (.int .u32 (v4 : Int))).setCell (p := ⟨F, 4, none⟩) (by simp; omega) (.int .u32 (v5 : Int)))
  clear hC_5 hf_5 hF_5 hcu5 HB_5
  generalize ((V6.setCell ⟨F, 3, none⟩ (.int .u32 (v4 : Int))).setCell ⟨F, 4, none⟩ (.int .u32 (v5 : Int))) = V7 at hC_s6 hf_s6 hF_s6 hcu5_s6 HB_5_s6 ⊢
  have K6 := byte_reads p e5 l5 _ hcu5_s6
  rw [H6.out] at K6
  refine K6.mono ?_
  clear K6
  rintro r V8 ⟨rfl, hcu6, hg⟩
  have hC_6 := hC_s6.grown hg (by simp; omega)
  have hf_6 := hf_s6.grown hg (by simp; omega)
  have hF_6 := hF_s6.grown hg (by simp; omega)
  have HB_6 := Lib.hid (below_p HB_5_s6.out hg (by omega))
  clear hg hcu5_s6 HB_5_s6
  have hCc := hC_6.cell 0
  simp at hCc
  go_wp2_with fail
  have K7 := numc_calls _ p e6 C l6 _ hcu6 hCc
  rw [H7.out] at K7
  refine K7.mono ?_
  clear K7
  rintro r V9 ⟨rfl, hcu7, hg⟩
  have hC_7 := hC_6.grown hg (by simp; omega)
  have hf_7 := hf_6.grown hg (by simp; omega)
  have hF_7 := hF_6.grown hg (by simp; omega)
  have HB_7 := Lib.hid (below_p HB_6.out hg (by omega))
  clear hg hcu6 HB_6
  clear hCc
  have fc5 := hF_7.cell 5
  have ff5 := hF_7.frozen 5
  simp at fc5
  have fc6 := hF_7.cell 6
  have ff6 := hF_7.frozen 6
  simp at fc6
  go_wp2_with fail
  clear fc5 ff5 fc6 ff6
  have hC_s9 := ((hC_7.far (p := ⟨F, 5, none⟩) (by simp; omega) (.int .u8 (v6.toNat : Int))).far (p := ⟨F, 6, none⟩) (by simp; omega) (.int .u32 (v7 : Int)))
  have hf_s9 := ((hf_7.far (p := ⟨F, 5, none⟩) (by simp; omega) (.int .u8 (v6.toNat : Int))).far (p := ⟨F, 6, none⟩) (by simp; omega) (.int .u32 (v7 : Int)))
  have hF_s9 := ((hF_7.set_ 5 (.int .u8 (v6.toNat : Int))).set_ 6 (.int .u32 (v7 : Int)))
  simp at hF_s9
  have hcu7_s9 := ((hcu7.far (a := ⟨F, 5, none⟩) (by simp; omega) (by simp; omega) (.int .u8 (v6.toNat : Int))).far (a := ⟨F, 6, none⟩) (by simp; omega) (by simp; omega) (.int .u32 (v7 : Int)))
  have HB_7_s9 := Lib.hid ((HB_7.out.setCell (p := ⟨F, 5, none⟩) (by simp; omega) (.int .u8 (v6.toNat : Int))).setCell (p := ⟨F, 6, none⟩) (by simp; omega) (.int .u32 (v7 : Int)))
  clear hC_7 hf_7 hF_7 hcu7 HB_7
  generalize ((V9.setCell ⟨F, 5, none⟩ (.int .u8 (v6.toNat : Int))).setCell ⟨F, 6, none⟩ (.int .u32 (v7 : Int))) = V10 at hC_s9 hf_s9 hF_s9 hcu7_s9 HB_7_s9 ⊢
  have K8 := byte_reads p e7 l7 _ hcu7_s9
  rw [H8.out] at K8
  refine K8.mono ?_
  clear K8
  rintro r V11 ⟨rfl, hcu8, hg⟩
  have hC_8 := hC_s9.grown hg (by simp; omega)
  have hf_8 := hf_s9.grown hg (by simp; omega)
  have hF_8 := hF_s9.grown hg (by simp; omega)
  have HB_8 := Lib.hid (below_p HB_7_s9.out hg (by omega))
  clear hg hcu7_s9 HB_7_s9
  have hlF := hF_8.lt
  generalize hLL : V11.heap.size = L at hlF
  go_wp2_with fail
  have hC_n11 := hC_8.alloc (.cells #[.int .u8 (v8.toNat : Int)] 5)
  clear hC_8
  have hf_n11 := hf_8.alloc (.cells #[.int .u8 (v8.toNat : Int)] 5)
  clear hf_8
  have hF_n11 := hF_8.alloc (.cells #[.int .u8 (v8.toNat : Int)] 5)
  clear hF_8
  have hL_n11 := Blk.new V11 5 #[.int .u8 (v8.toNat : Int)]
  have hcu8_n11 := hcu8.below ((Below.refl _ _).alloc (Nat.le_refl _) (.cells #[.int .u8 (v8.toNat : Int)] 5))
  have HB_8_n11 := Lib.hid (HB_8.out.alloc HB_8.out.size (.cells #[.int .u8 (v8.toNat : Int)] 5))
  clear hcu8 HB_8
  generalize V11.alloc (.cells #[.int .u8 (v8.toNat : Int)] 5) = V12 at hC_n11 hf_n11 hF_n11 hL_n11 hcu8_n11 HB_8_n11 ⊢
  rw [hLL] at hL_n11
  clear hLL
  have hLc := hL_n11.cell 0
  have hCc := hC_n11.cell 0
  simp at hLc hCc
  have K9 := bytes_reads p e8 65536 l8 V12.drew (D := C) hcu8_n11 (by omega)
  rw [H9.out] at K9
  have HK9 := Lib.hid K9
  clear K9 hmf
  have hbe : ((v8.toNat : Int) == ((bit8 true).toNat : Int)) = (v8 == 1) := by
    rw [Bool.eq_iff_iff]; simp [bit8]; rw [← UInt8.toNat_inj]; simp; omega
  go_region_held3 (fun w' => w'.cell? ⟨L, 0, none⟩ = some (.int .u8 (v8.toNat : Int)) ∧ w'.cell? ⟨C, 0, none⟩ = some (.pointer (some ⟨p, 0, none⟩)))
    (first | go_keep | exact ⟨hLc9, hCc9⟩ | exact ⟨(hL9.far (p := ⟨F, 7, none⟩) (by simp; omega) _).cell 0, (hC9.far (p := ⟨F, 7, none⟩) (by simp; omega) _).cell 0⟩ | exact ⟨((hL9.far (p := ⟨F, 7, none⟩) (by simp; omega) _).far (p := ⟨F, 8, none⟩) (by simp; omega) _).cell 0, ((hC9.far (p := ⟨F, 7, none⟩) (by simp; omega) _).far (p := ⟨F, 8, none⟩) (by simp; omega) _).cell 0⟩)
    (first
      | (go_at_call 31; refine (truth_calls true _).mono ?_; rintro r wt ⟨rfl, rfl⟩)
      | (go_at_call 32; refine HK9.out.mono ?_; rintro r V13 ⟨A9, c9, rfl, hc9, hr9, hcu9, hg⟩;
          have hL9 := Blk.grown (w := V12.drew) hL_n11 hg (by simp; omega);
          have hC9 := Blk.grown (w := V12.drew) hC_n11 hg (by simp; omega);
          have hF9 := Blk.grown (w := V12.drew) hF_n11 hg (by simp; omega);
          have hf9 := Blk.grown (w := V12.drew) hf_n11 hg (by simp; omega);
          have hLc9 := hL9.cell 0; have hCc9 := hC9.cell 0; simp at hLc9 hCc9;
          have fc7 := hF9.cell 7; have ff7 := hF9.frozen 7; have fc8 := hF9.cell 8; have ff8 := hF9.frozen 8; simp at fc7 fc8;
          have HG9 := Lib.hid hg; clear hg))
  have HB9 := Lib.hid (below_p (below_drewN HB_8_n11.out 1) HG9.out (by omega))
  have hFz := hF_n11.lt
  have hr9' : Rd B8 V13 (fun b => F < b) A9 v9 := hr9.weaken (fun b hb => Nat.lt_of_lt_of_le hFz hb)
  have hz9 := HG9.out.size
  have hw9 := HB_8_n11.out.size
  clear fc7 ff7 fc8 ff8 hLc9 hCc9 hLc hCc hC_n11 hf_n11 hF_n11 hL_n11 hcu8_n11 HK9 hbe HG9 hr9 HB_8_n11
  have hr10 := (hr9'.far (p := ⟨F, 7, none⟩) (fun b hb => by simp; omega) (.bool (v8 == 1))).far (p := ⟨F, 8, none⟩) (fun b hb => by simp; omega) (.slice A9 v9.length c9)
  clear hr9'
  have hC_s13 := ((hC9.far (p := ⟨F, 7, none⟩) (by simp; omega) (.bool (v8 == 1))).far (p := ⟨F, 8, none⟩) (by simp; omega) (.slice A9 v9.length c9))
  have hf_s13 := ((hf9.far (p := ⟨F, 7, none⟩) (by simp; omega) (.bool (v8 == 1))).far (p := ⟨F, 8, none⟩) (by simp; omega) (.slice A9 v9.length c9))
  have hL_s13 := ((hL9.far (p := ⟨F, 7, none⟩) (by simp; omega) (.bool (v8 == 1))).far (p := ⟨F, 8, none⟩) (by simp; omega) (.slice A9 v9.length c9))
  have hF_s13 := ((hF9.set_ 7 (.bool (v8 == 1))).set_ 8 (.slice A9 v9.length c9))
  simp at hF_s13
  have hcu9_s13 := ((hcu9.far (a := ⟨F, 7, none⟩) (by simp; omega) (by simp; omega) (.bool (v8 == 1))).far (a := ⟨F, 8, none⟩) (by simp; omega) (by simp; omega) (.slice A9 v9.length c9))
  have HB9_s13 := Lib.hid ((HB9.out.setCell (p := ⟨F, 7, none⟩) (by simp; omega) (.bool (v8 == 1))).setCell (p := ⟨F, 8, none⟩) (by simp; omega) (.slice A9 v9.length c9))
  clear hC9 hf9 hF9 hL9 hcu9 HB9
  generalize ((V13.setCell ⟨F, 7, none⟩ (.bool (v8 == 1))).setCell ⟨F, 8, none⟩ (.slice A9 v9.length c9)) = V14 at hC_s13 hf_s13 hF_s13 hL_s13 hcu9_s13 HB9_s13 hr10 ⊢
  have hzF := hF_s13.lt
  have hzL := hL_s13.lt
  have hmf : ∀ (fn : Fn) (first cap : Array Value) (w : World), (Instr.makeFunc fn first cap).run Try.prog w = .ok (.func fn first cap) w := fun _ _ _ _ => rfl
  go_wp2_with fail
  have hCc := hC_s13.cell 0
  simp at hCc
  refine wp_region_held_drew (S := fun w' => w'.cell? ⟨C, 0, none⟩ = some (.pointer (some ⟨p, 0, none⟩))) (by kernel_rfl) hCc (fun hHeld => ?_)
  refine wpAnyH_take (i := 0) (oi := { dst := some 53, op := .load 57 (.tmp 6), type := 57, pos := "frame.go:92", after := #[], guard := none }) (v := .pointer (some ⟨p, 0, none⟩)) rfl (by kernel_rfl) (by kernel_rfl) (by kernel_rfl) (fun _ _ _ h => h) (Or.inl ⟨by rfl, ?_⟩) (by assumption) ?_
  · intro w9 hSw
    (try dsimp only at hSw); go_simp
  try simp only [Act.put, List.setIfInBounds_toArray, List.set_cons_zero, List.set_cons_succ]
  refine wpAnyH_take (i := 4) (oi := { dst := some 57, op := .load 57 (.tmp 6), type := 57, pos := "frame.go:92", after := #[], guard := none }) (v := .pointer (some ⟨p, 0, none⟩)) rfl (by kernel_rfl) (by kernel_rfl) (by kernel_rfl) (fun _ _ _ h => h) (Or.inl ⟨by rfl, ?_⟩) (by assumption) ?_
  · intro w9 hSw
    (try dsimp only at hSw); go_simp
  try simp only [Act.put, List.setIfInBounds_toArray, List.set_cons_zero, List.set_cons_succ]
  refine wpAnyH_take (i := 1) (oi := { dst := some 54, op := .makeFunc (.func 34) #[.tmp 53] #[], type := 65, pos := "frame.go:92", after := #[{ on := 0, ground := .data }], guard := none }) (v := .func (.func 34) #[.pointer (some ⟨p, 0, none⟩)] #[]) rfl (by kernel_rfl) (by kernel_rfl) (by kernel_rfl) (fun _ _ _ h => h) (Or.inl ⟨by rfl, ?_⟩) (by assumption) ?_
  · intro w9 hSw
    go_simp
  try simp only [Act.put, List.setIfInBounds_toArray, List.set_cons_zero, List.set_cons_succ]
  refine wpAnyH_take (i := 2) (oi := { dst := some 55, op := .makeFunc (.func 36) #[] #[.tmp 10], type := 34, pos := "frame.go:92", after := #[], guard := none }) (v := .func (.func 36) #[] #[.pointer (some ⟨L, 0, none⟩)]) rfl (by kernel_rfl) (by kernel_rfl) (by kernel_rfl) (fun _ _ _ h => h) (Or.inl ⟨by rfl, ?_⟩) (by assumption) ?_
  · intro w9 hSw
    go_simp
  try simp only [Act.put, List.setIfInBounds_toArray, List.set_cons_zero, List.set_cons_succ]
  refine wpAnyH_take (i := 5) (oi := { dst := some 58, op := .makeFunc (.func 37) #[.tmp 57] #[], type := 65, pos := "frame.go:92", after := #[{ on := 4, ground := .data }], guard := none }) (v := .func (.func 37) #[.pointer (some ⟨p, 0, none⟩)] #[]) rfl (by kernel_rfl) (by kernel_rfl) (by kernel_rfl) (fun _ _ _ h => h) (Or.inl ⟨by rfl, ?_⟩) (by assumption) ?_
  · intro w9 hSw
    go_simp
  try simp only [Act.put, List.setIfInBounds_toArray, List.set_cons_zero, List.set_cons_succ]
  refine wpAnyH_take (i := 6) (oi := { dst := some 59, op := .makeFunc (.func 38) #[] #[.tmp 9], type := 65, pos := "frame.go:92", after := #[], guard := none }) (v := .func (.func 38) #[] #[.pointer (some ⟨F, 0, none⟩)]) rfl (by kernel_rfl) (by kernel_rfl) (by kernel_rfl) (fun _ _ _ h => h) (Or.inl ⟨by rfl, ?_⟩) (by assumption) ?_
  · intro w9 hSw
    go_simp
  try simp only [Act.put, List.setIfInBounds_toArray, List.set_cons_zero, List.set_cons_succ]
  refine wpAnyH_ready (rs := [3]) (by kernel_rfl) (by simp) ?_
  refine AllReadyH.cons (o := { dst := some 56, op := .call { callee := .value (.func 35), args := #[.tmp 55, .const (.int .i64 3)], argTypes := #[34, 39] }, type := 65, pos := "frame.go:94", after := #[{ on := 2, ground := .data }], guard := none }) rfl (fun K hK => ?_) AllReadyH.nil
  go_simp
  go_at_call 35
  refine (unless_calls 36 #[] #[.pointer (some ⟨L, 0, none⟩)] 3 _).mono ?_
  rintro r V15 ⟨rfl, hz15, hsp15, hsq15, hB15⟩
  have hL15 := Blk.below (w := V14.drew) hL_s13 hB15 hL_s13.lt
  have hC15 := Blk.below (w := V14.drew) hC_s13 hB15 hC_s13.lt
  have hF15 := Blk.below (w := V14.drew) hF_s13 hB15 hF_s13.lt
  have hf15 := Blk.below (w := V14.drew) hf_s13 hB15 hf_s13.lt
  have hcu15 := Cur.below (w := V14.drew) hcu9_s13 hB15
  have hCc15 := hC15.cell 0
  simp at hCc15
  have hz15b : V15.heap.size = V14.heap.size + 2 := hz15
  clear hz15
  have HB15 := Lib.hid hB15
  clear hB15
  refine hK.out _ _ hCc15 (fun hHeld => ?_)
  clear hK K
  try simp only [Act.put, List.setIfInBounds_toArray, List.set_cons_zero, List.set_cons_succ]
  refine wpAnyH_ready (rs := [7]) (by kernel_rfl) (by simp) ?_
  refine AllReadyH.cons (o := { dst := some 60, op := .buildSlice 107 4 #[(0, .tmp 54), (1, .tmp 56), (2, .tmp 58), (3, .tmp 59)], type := 107, pos := "frame.go:92", after := #[{ on := 1, ground := .data }, { on := 3, ground := .data }, { on := 5, ground := .data }, { on := 6, ground := .data }], guard := none }) rfl (fun K hK => ?_) AllReadyH.nil
  go_simp
  have hCc15b := (hC15.alloc (.cells #[.func (.func 34) #[.pointer (some ⟨p, 0, none⟩)] #[], .func (.func 74) #[] #[.pointer (some ⟨V14.heap.size, 0, none⟩), .pointer (some ⟨V14.heap.size + 1, 0, none⟩)], .func (.func 37) #[.pointer (some ⟨p, 0, none⟩)] #[], .func (.func 38) #[] #[.pointer (some ⟨F, 0, none⟩)]] 65)).cell 0
  simp at hCc15b
  refine hK.out _ _ hCc15b (fun hHeld => ?_)
  clear hK K
  try simp only [Act.put, List.setIfInBounds_toArray, List.set_cons_zero, List.set_cons_succ]
  refine wpAnyH_ready (rs := [8]) (by kernel_rfl) (by simp) ?_
  refine AllReadyH.cons (o := { dst := some 61, op := .call { callee := .value (.func 33), args := #[.tmp 60], argTypes := #[107] }, type := 39, pos := "frame.go:92", after := #[{ on := 7, ground := .data }, { on := 3, ground := .chain }], guard := none }) rfl (fun K hK => ?_) AllReadyH.nil
  have hn15 := Blk.new V15 65 #[.func (.func 34) #[.pointer (some ⟨p, 0, none⟩)] #[], .func (.func 74) #[] #[.pointer (some ⟨V14.heap.size, 0, none⟩), .pointer (some ⟨V14.heap.size + 1, 0, none⟩)], .func (.func 37) #[.pointer (some ⟨p, 0, none⟩)] #[], .func (.func 38) #[] #[.pointer (some ⟨F, 0, none⟩)]]
  rw [hz15b] at hn15
  go_simp
  go_at_call 33
  refine (first4_calls C _ V14.heap.size (V14.heap.size + 1) p F L e9 v9.length c9 A9 l9 v8 ⟨v1, v2, v3, v4, v5, v6, v7, v8 == 1, v9⟩ rfl _ hn15 (hsp15.alloc _) (hsq15.alloc _) (hL15.alloc _) (hF15.alloc _) (hcu15.below ((Below.refl _ _).alloc (Nat.le_refl _) _))).mono ?_
  rintro r V16 ⟨rfl, hB16⟩
  have hC16 := (hC15.alloc (.cells #[.func (.func 34) #[.pointer (some ⟨p, 0, none⟩)] #[], .func (.func 74) #[] #[.pointer (some ⟨V14.heap.size, 0, none⟩), .pointer (some ⟨V14.heap.size + 1, 0, none⟩)], .func (.func 37) #[.pointer (some ⟨p, 0, none⟩)] #[], .func (.func 38) #[] #[.pointer (some ⟨F, 0, none⟩)]] 65)).below hB16 (by simp; omega)
  have hCc16 := hC16.cell 0
  simp at hCc16
  have HB16 := Lib.hid hB16
  clear hB16
  refine hK.out _ _ hCc16 (fun hHeld => ?_)
  clear hK K
  try simp only [Act.put, List.setIfInBounds_toArray, List.set_cons_zero, List.set_cons_succ]
  refine wpAnyH_take (i := 9) (oi := { dst := some 5, op := .assign (.tmp 61), type := 39, pos := "frame.go:92", after := #[{ on := 8, ground := .data }, { on := 8, ground := .chain }, { on := 0, ground := .phase }, { on := 1, ground := .phase }, { on := 2, ground := .phase }, { on := 3, ground := .phase }, { on := 4, ground := .phase }, { on := 5, ground := .phase }, { on := 6, ground := .phase }, { on := 7, ground := .phase }, { on := 8, ground := .phase }], guard := none }) (v := .int .i64 (restE ⟨⟨v1, v2, v3, v4, v5, v6, v7, v8 == 1, v9⟩, v8, e9, l9⟩ : Int)) rfl (by kernel_rfl) (by kernel_rfl) (by kernel_rfl) (fun _ _ _ h => h) (Or.inl ⟨by rfl, ?_⟩) (by assumption) ?_
  · intro w9 hSw
    go_simp
  try simp only [Act.put, List.setIfInBounds_toArray, List.set_cons_zero, List.set_cons_succ]
  refine wpAnyH_done (by kernel_rfl) ?_ _
  have hz16 : w.heap.size ≤ V15.heap.size := by omega
  have HBz : Below w.heap.size w V16 := (((below_drewN HB9_s13.out 1).trans (HB15.out.mono (by show w.heap.size ≤ V14.heap.size; omega))).alloc hz16 _).trans (HB16.out.mono (by simp; omega))
  have hF16 := (hF15.alloc _).below HB16.out (by simp; omega)
  have hf16 := (hf15.alloc _).below HB16.out (by simp; omega)
  have hr16 := (((Rd.drew hr10).below HB15.out).alloc _).below HB16.out
  clear HB15 HB16 hC15 hL15 hcu15 hF15 hf15 hr10
  have z0 := hf16.cell 0
  have y0 := hf16.frozen 0
  have z1 := hf16.cell 1
  have y1 := hf16.frozen 1
  have z2 := hf16.cell 2
  have y2 := hf16.frozen 2
  have z3 := hf16.cell 3
  have y3 := hf16.frozen 3
  have z4 := hf16.cell 4
  have y4 := hf16.frozen 4
  have z5 := hf16.cell 5
  have y5 := hf16.frozen 5
  have z6 := hf16.cell 6
  have y6 := hf16.frozen 6
  have z7 := hf16.cell 7
  have y7 := hf16.frozen 7
  have z8 := hf16.cell 8
  have y8 := hf16.frozen 8
  simp at z0 z1 z2 z3 z4 z5 z6 z7 z8
  have hl16 : Hid (∀ b, F < b → w.heap.size < b) := fun b hb => by omega
  by_cases he : restE ⟨⟨v1, v2, v3, v4, v5, v6, v7, v8 == 1, v9⟩, v8, e9, l9⟩ = 0
  · have ht : ((restE ⟨⟨v1, v2, v3, v4, v5, v6, v7, v8 == 1, v9⟩, v8, e9, l9⟩ : Int) != 0) = false := by simp; omega
    have hD : Hid (decR (restR (l.take n)) = (⟨v1, v2, v3, v4, v5, v6, v7, v8 == 1, v9⟩, 0)) := by
      show _ = _
      rw [HR.out]; unfold decR; rw [if_neg (by omega)]
    obtain ⟨k0, k1, k2, k3, k4, k5, k6, k7, k8⟩ := frCells (f := ⟨v1, v2, v3, v4, v5, v6, v7, v8 == 1, v9⟩) hF16
    clear he
    go_wp2
    rw [hD.out]
    have hz := (((((((((hf16.set_ 0 (.int .u8 (v1.toNat : Int))).set_ 1 (.int .u8 (v2.toNat : Int))).set_ 2 (.int .u8 (v3.toNat : Int))).set_ 3 (.int .u32 (v4 : Int))).set_ 4 (.int .u32 (v5 : Int))).set_ 5 (.int .u8 (v6.toNat : Int))).set_ 6 (.int .u32 (v7 : Int))).set_ 7 (.bool (v8 == 1))).set_ 8 (.slice A9 v9.length c9))
    simp at hz
    have hB17 := (((((((((HBz.setCell (p := ⟨w.heap.size, 0, none⟩) (Nat.le_refl _) (.int .u8 (v1.toNat : Int))).setCell (p := ⟨w.heap.size, 1, none⟩) (Nat.le_refl _) (.int .u8 (v2.toNat : Int))).setCell (p := ⟨w.heap.size, 2, none⟩) (Nat.le_refl _) (.int .u8 (v3.toNat : Int))).setCell (p := ⟨w.heap.size, 3, none⟩) (Nat.le_refl _) (.int .u32 (v4 : Int))).setCell (p := ⟨w.heap.size, 4, none⟩) (Nat.le_refl _) (.int .u32 (v5 : Int))).setCell (p := ⟨w.heap.size, 5, none⟩) (Nat.le_refl _) (.int .u8 (v6.toNat : Int))).setCell (p := ⟨w.heap.size, 6, none⟩) (Nat.le_refl _) (.int .u32 (v7 : Int))).setCell (p := ⟨w.heap.size, 7, none⟩) (Nat.le_refl _) (.bool (v8 == 1))).setCell (p := ⟨w.heap.size, 8, none⟩) (Nat.le_refl _) (.slice A9 v9.length c9))
    have hr17 := (((((((((hr16.far (p := ⟨w.heap.size, 0, none⟩) (fun b hb => by have := hl16.out b hb; simp; omega) (.int .u8 (v1.toNat : Int))).far (p := ⟨w.heap.size, 1, none⟩) (fun b hb => by have := hl16.out b hb; simp; omega) (.int .u8 (v2.toNat : Int))).far (p := ⟨w.heap.size, 2, none⟩) (fun b hb => by have := hl16.out b hb; simp; omega) (.int .u8 (v3.toNat : Int))).far (p := ⟨w.heap.size, 3, none⟩) (fun b hb => by have := hl16.out b hb; simp; omega) (.int .u32 (v4 : Int))).far (p := ⟨w.heap.size, 4, none⟩) (fun b hb => by have := hl16.out b hb; simp; omega) (.int .u32 (v5 : Int))).far (p := ⟨w.heap.size, 5, none⟩) (fun b hb => by have := hl16.out b hb; simp; omega) (.int .u8 (v6.toNat : Int))).far (p := ⟨w.heap.size, 6, none⟩) (fun b hb => by have := hl16.out b hb; simp; omega) (.int .u32 (v7 : Int))).far (p := ⟨w.heap.size, 7, none⟩) (fun b hb => by have := hl16.out b hb; simp; omega) (.bool (v8 == 1))).far (p := ⟨w.heap.size, 8, none⟩) (fun b hb => by have := hl16.out b hb; simp; omega) (.slice A9 v9.length c9))
    generalize (((((((((V16.setCell ⟨w.heap.size, 0, none⟩ (.int .u8 (v1.toNat : Int))).setCell ⟨w.heap.size, 1, none⟩ (.int .u8 (v2.toNat : Int))).setCell ⟨w.heap.size, 2, none⟩ (.int .u8 (v3.toNat : Int))).setCell ⟨w.heap.size, 3, none⟩ (.int .u32 (v4 : Int))).setCell ⟨w.heap.size, 4, none⟩ (.int .u32 (v5 : Int))).setCell ⟨w.heap.size, 5, none⟩ (.int .u8 (v6.toNat : Int))).setCell ⟨w.heap.size, 6, none⟩ (.int .u32 (v7 : Int))).setCell ⟨w.heap.size, 7, none⟩ (.bool (v8 == 1))).setCell ⟨w.heap.size, 8, none⟩ (.slice A9 v9.length c9)) = W17 at hz hB17 hr17 ⊢

    exact bodyPost_ret (results_frame rfl _ _ w.heap.size _ _ rfl rfl hz rfl) rfl ⟨A9, c9, rfl, hc9, hr17.weaken (fun b hb => Nat.le_of_lt (hl16.out b hb)), hB17⟩
  · have ht : ((restE ⟨⟨v1, v2, v3, v4, v5, v6, v7, v8 == 1, v9⟩, v8, e9, l9⟩ : Int) != 0) = true := by simp; omega
    have hD : Hid (decR (restR (l.take n)) = (Fr0, restE ⟨⟨v1, v2, v3, v4, v5, v6, v7, v8 == 1, v9⟩, v8, e9, l9⟩)) := by
      show _ = _
      rw [HR.out]; unfold decR; rw [if_pos he]
    clear he
    go_wp2
    rw [hD.out]
    have hz := (((((((((hf16.set_ 0 (.int .u8 0)).set_ 1 (.int .u8 0)).set_ 2 (.int .u8 0)).set_ 3 (.int .u32 0)).set_ 4 (.int .u32 0)).set_ 5 (.int .u8 0)).set_ 6 (.int .u32 0)).set_ 7 (.bool false)).set_ 8 (.slice none 0 0))
    simp at hz
    have hB17 := (((((((((HBz.setCell (p := ⟨w.heap.size, 0, none⟩) (Nat.le_refl _) (.int .u8 0)).setCell (p := ⟨w.heap.size, 1, none⟩) (Nat.le_refl _) (.int .u8 0)).setCell (p := ⟨w.heap.size, 2, none⟩) (Nat.le_refl _) (.int .u8 0)).setCell (p := ⟨w.heap.size, 3, none⟩) (Nat.le_refl _) (.int .u32 0)).setCell (p := ⟨w.heap.size, 4, none⟩) (Nat.le_refl _) (.int .u32 0)).setCell (p := ⟨w.heap.size, 5, none⟩) (Nat.le_refl _) (.int .u8 0)).setCell (p := ⟨w.heap.size, 6, none⟩) (Nat.le_refl _) (.int .u32 0)).setCell (p := ⟨w.heap.size, 7, none⟩) (Nat.le_refl _) (.bool false)).setCell (p := ⟨w.heap.size, 8, none⟩) (Nat.le_refl _) (.slice none 0 0))
    generalize (((((((((V16.setCell ⟨w.heap.size, 0, none⟩ (.int .u8 0)).setCell ⟨w.heap.size, 1, none⟩ (.int .u8 0)).setCell ⟨w.heap.size, 2, none⟩ (.int .u8 0)).setCell ⟨w.heap.size, 3, none⟩ (.int .u32 0)).setCell ⟨w.heap.size, 4, none⟩ (.int .u32 0)).setCell ⟨w.heap.size, 5, none⟩ (.int .u8 0)).setCell ⟨w.heap.size, 6, none⟩ (.int .u32 0)).setCell ⟨w.heap.size, 7, none⟩ (.bool false)).setCell ⟨w.heap.size, 8, none⟩ (.slice none 0 0)) = W17 at hz hB17 ⊢

    exact bodyPost_ret (results_frame rfl _ _ w.heap.size _ _ rfl rfl hz rfl) rfl ⟨none, 0, rfl, Nat.le_refl _, Rd.nil, hB17⟩
end Go.Proofs.Ytogdbccfkbbcaaa
