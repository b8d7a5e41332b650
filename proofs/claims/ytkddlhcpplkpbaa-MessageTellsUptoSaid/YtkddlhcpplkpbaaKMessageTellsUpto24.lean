/- MessageTellsUpto: texts of this claim, packed: what the kit's print has written for it and own texts, without what its proof does not reach. -/
import Derived.Test.YtkddlhcpplkpbaaKMessageTellsUpto15
import Derived.Test.YtkddlhcpplkpbaaKMessageTellsUpto16
import Derived.Test.YtkddlhcpplkpbaaKMessageTellsUpto23
set_option linter.unusedVariables false
set_option linter.unusedSimpArgs false
set_option linter.unusedSectionVars false
section
namespace Go.Proofs.Ytkddlhcpplkpbaa.G
open WB Go.RowKit Go.Proofs.YtkddlhcpplkpbaaW.PrintWords Go.Proofs.YtkddlhcpplkpbaaW.PrintLast Go.Proofs.YtkddlhcpplkpbaaW.PrintMore
attribute [local go_sem] max2_int min2_int max_two min_two max_three min_three max_four min_four   -- for this text's walks alone
def waybillplain_SameBytes.f (l0 : List Int) (l1 : List Int) : Option (Bool) := some ((strOfNums l0).toList == (strOfNums l1).toList)
set_option maxHeartbeats 8000000 in
set_option maxRecDepth 100000 in
theorem waybillplain_SameBytes.calls (A0 : Option Addr) (c0 : Nat) (l0 : List Int) (A1 : Option Addr) (c1 : Nat) (l1 : List Int) (r : Bool) (w : World) (hr0 : Kd.C (Kd.int .u8) w A0 l0.length l0) (hc0 : l0.length ≤ c0) (hr1 : Kd.C (Kd.int .u8) w A1 l1.length l1) (hc1 : l1.length ≤ c1) (h : waybillplain_SameBytes.f l0 l1 = some r) :
  Calls Try.prog 14 #[.slice A0 l0.length c0, .slice A1 l1.length c1] w fun e w' => e = .returned (.bool r) ∧ Drawn0 w w' := by
 have HR0 := Aside0.mk hr0
 have HC0 := Aside0.mk hc0
 clear hr0 hc0
 have HR1 := Aside0.mk hr1
 have HC1 := Aside0.mk hc1
 clear hr1 hc1
 have H : (some ((strOfNums l0).toList == (strOfNums l1).toList)) = some r := h
 clear h
 obtain rfl := Option.some.inj H
 simp only [Option.some.injEq, Prod.mk.injEq] at H
 obtain ⟨rfl⟩ := H
 have hcv3 := Kd.C_string (P := Try.prog) (A := A0) (c := c0) Try.underlying22 Try.underlying5 Try.underlying9 HR0.out; have hcv3n := fun n_ => Kd.C_string (P := Try.prog) (A := A0) (c := c0) Try.underlying22 Try.underlying5 Try.underlying9 (Kd.C_drewN HR0.out n_)
 have hcv4 := Kd.C_string (P := Try.prog) (A := A1) (c := c1) Try.underlying22 Try.underlying5 Try.underlying9 HR1.out; have hcv4n := fun n_ => Kd.C_string (P := Try.prog) (A := A1) (c := c1) Try.underlying22 Try.underlying5 Try.underlying9 (Kd.C_drewN HR1.out n_)
 go_enter Try.func14, Try.ntmps14
 go_wp2
 go_ret
 exact ⟨by first | rfl | (simp; done) | (simp [*]; done), by repeat (first | exact Drawn0.refl _ | apply Drawn0.step)⟩
end Go.Proofs.Ytkddlhcpplkpbaa.G
end
section
namespace Go.Proofs.Ytkddlhcpplkpbaa.G
open WB Go.RowKit Go.Proofs.YtkddlhcpplkpbaaW.PrintWords Go.Proofs.YtkddlhcpplkpbaaW.PrintLast Go.Proofs.YtkddlhcpplkpbaaW.PrintMore
attribute [local go_sem] max2_int min2_int max_two min_two max_three min_three max_four min_four   -- for this text's walks alone
def waybillplain_SameMsg.f (a0_0 : Int) (a0_1 : Int) (a0_2 : Int) (a0_3 : Int) (a0_4 : Int) (a0_5 : Int) (a0_6 : Int) (a0_7 : Int) (a0_8 : Int) (a0_9 : Int) (a0_10 : Int) (l0_11 : List Int) (a1_0 : Int) (a1_1 : Int) (a1_2 : Int) (a1_3 : Int) (a1_4 : Int) (a1_5 : Int) (a1_6 : Int) (a1_7 : Int) (a1_8 : Int) (a1_9 : Int) (a1_10 : Int) (l1_11 : List Int) : Option (Bool) := (waybillplain_SameBytes.f l0_11 l1_11).bind fun b => some (b && (a0_0 == a1_0) && (a0_1 == a1_1) && (a0_2 == a1_2) && (a0_3 == a1_3) && (a0_4 == a1_4) && (a0_5 == a1_5) && (a0_6 == a1_6) && (a0_7 == a1_7) && (a0_8 == a1_8) && (a0_9 == a1_9) && (a0_10 == a1_10))
set_option maxHeartbeats 8000000 in
set_option maxRecDepth 100000 in
theorem waybillplain_SameMsg.calls (a0_0 : Int) (a0_1 : Int) (a0_2 : Int) (a0_3 : Int) (a0_4 : Int) (a0_5 : Int) (a0_6 : Int) (a0_7 : Int) (a0_8 : Int) (a0_9 : Int) (a0_10 : Int) (A0_11 : Option Addr) (c0_11 : Nat) (l0_11 : List Int) (a1_0 : Int) (a1_1 : Int) (a1_2 : Int) (a1_3 : Int) (a1_4 : Int) (a1_5 : Int) (a1_6 : Int) (a1_7 : Int) (a1_8 : Int) (a1_9 : Int) (a1_10 : Int) (A1_11 : Option Addr) (c1_11 : Nat) (l1_11 : List Int) (r : Bool) (w : World) (hr0_11 : Kd.C (Kd.int .u8) w A0_11 l0_11.length l0_11) (hc0_11 : l0_11.length ≤ c0_11) (hr1_11 : Kd.C (Kd.int .u8) w A1_11 l1_11.length l1_11) (hc1_11 : l1_11.length ≤ c1_11) (h : waybillplain_SameMsg.f a0_0 a0_1 a0_2 a0_3 a0_4 a0_5 a0_6 a0_7 a0_8 a0_9 a0_10 l0_11 a1_0 a1_1 a1_2 a1_3 a1_4 a1_5 a1_6 a1_7 a1_8 a1_9 a1_10 l1_11 = some r) :
  Calls Try.prog 12 #[.agg #[.int .i64 a0_0, .int .i64 a0_1, .int .i64 a0_2, .int .i64 a0_3, .int .i64 a0_4, .int .i64 a0_5, .int .i64 a0_6, .int .i64 a0_7, .int .i64 a0_8, .int .i64 a0_9, .int .i64 a0_10, .slice A0_11 l0_11.length c0_11], .agg #[.int .i64 a1_0, .int .i64 a1_1, .int .i64 a1_2, .int .i64 a1_3, .int .i64 a1_4, .int .i64 a1_5, .int .i64 a1_6, .int .i64 a1_7, .int .i64 a1_8, .int .i64 a1_9, .int .i64 a1_10, .slice A1_11 l1_11.length c1_11]] w fun e w' => e = .returned (.bool r) ∧ Below w.heap.size w w' := by
 unfold waybillplain_SameMsg.f at h
 obtain ⟨b, hb, h⟩ := Option.bind_eq_some_iff.1 h
 have HB := Aside0.mk hb
 have HR0 := Aside0.mk hr0_11
 have HC0 := Aside0.mk hc0_11
 have HR1 := Aside0.mk hr1_11
 have HC1 := Aside0.mk hc1_11
 have HJ := Aside0.mk (Option.some.inj h)
 clear hr0_11 hc0_11 hr1_11 hc1_11 hb h
 have hf : ∀ (g j : Nat), j < 12 → ∀ W, (Instr.fieldAt 25 (.pointer (some ⟨g, 0, none⟩)) j).run Try.prog W = .ok (.pointer (some ⟨g, j, none⟩)) W := by
  intro g j hj W
  match j, hj with
  | 0, _ => rfl
  | 1, _ => rfl
  | 2, _ => rfl
  | 3, _ => rfl
  | 4, _ => rfl
  | 5, _ => rfl
  | 6, _ => rfl
  | 7, _ => rfl
  | 8, _ => rfl
  | 9, _ => rfl
  | 10, _ => rfl
  | 11, _ => rfl
 obtain ⟨W0, hW0⟩ : ∃ W, W = (w.alloc (.cells #[.int .i64 a0_0, .int .i64 a0_1, .int .i64 a0_2, .int .i64 a0_3, .int .i64 a0_4, .int .i64 a0_5, .int .i64 a0_6, .int .i64 a0_7, .int .i64 a0_8, .int .i64 a0_9, .int .i64 a0_10, .slice A0_11 l0_11.length c0_11] 25)).alloc (.cells #[.int .i64 a1_0, .int .i64 a1_1, .int .i64 a1_2, .int .i64 a1_3, .int .i64 a1_4, .int .i64 a1_5, .int .i64 a1_6, .int .i64 a1_7, .int .i64 a1_8, .int .i64 a1_9, .int .i64 a1_10, .slice A1_11 l1_11.length c1_11] 25) := ⟨_, rfl⟩
 have BA := Aside0.mk (show W0.heap[w.heap.size]? = some (.cells #[.int .i64 a0_0, .int .i64 a0_1, .int .i64 a0_2, .int .i64 a0_3, .int .i64 a0_4, .int .i64 a0_5, .int .i64 a0_6, .int .i64 a0_7, .int .i64 a0_8, .int .i64 a0_9, .int .i64 a0_10, .slice A0_11 l0_11.length c0_11] 25 (0, 0)) by rw [hW0]; exact blk_alloc (heap_new1 _ _) _)
 have BB := Aside0.mk (show W0.heap[w.heap.size + 1]? = some (.cells #[.int .i64 a1_0, .int .i64 a1_1, .int .i64 a1_2, .int .i64 a1_3, .int .i64 a1_4, .int .i64 a1_5, .int .i64 a1_6, .int .i64 a1_7, .int .i64 a1_8, .int .i64 a1_9, .int .i64 a1_10, .slice A1_11 l1_11.length c1_11] 25 (0, 0)) by rw [hW0]; exact heap_new2 _ _ _)
 have HBW := Aside0.mk (show Below w.heap.size w W0 by rw [hW0]; exact below_alloc (below_alloc (Below.refl _ _) _) _)
 have HW := Aside0.mk hW0
 have q11 : W0.cell? ⟨w.heap.size, 11, none⟩ = some (.slice A0_11 l0_11.length c0_11) := (blk_cell BA.out 11).trans rfl
 have r11 : W0.cell? ⟨w.heap.size + 1, 11, none⟩ = some (.slice A1_11 l1_11.length c1_11) := (blk_cell BB.out 11).trans rfl
 clear hW0
 go_enter Try.func12, Try.ntmps12
 go_upto_region 1 with fail
 rw [← HW.out]
 clear HW hf
 have hf : ∀ (g j : Nat), j < 12 → ∀ W, (Instr.fieldAt 25 (.pointer (some ⟨g, 0, none⟩)) j).run Try.prog W = .ok (.pointer (some ⟨g, j, none⟩)) W := by
  intro g j hj W
  match j, hj with
  | 0, _ => rfl
  | 1, _ => rfl
  | 2, _ => rfl
  | 3, _ => rfl
  | 4, _ => rfl
  | 5, _ => rfl
  | 6, _ => rfl
  | 7, _ => rfl
  | 8, _ => rfl
  | 9, _ => rfl
  | 10, _ => rfl
  | 11, _ => rfl
 have HF := Aside0.mk hf
 clear hf
 go_wp2_with fail
 go_quiet (fail)
 obtain ⟨W1, hW1⟩ : ∃ W, W = W0.drewN nq := ⟨_, rfl⟩
 rw [← hW1]
 replace BA := Aside0.mk (show W1.heap[w.heap.size]? = some (.cells #[.int .i64 a0_0, .int .i64 a0_1, .int .i64 a0_2, .int .i64 a0_3, .int .i64 a0_4, .int .i64 a0_5, .int .i64 a0_6, .int .i64 a0_7, .int .i64 a0_8, .int .i64 a0_9, .int .i64 a0_10, .slice A0_11 l0_11.length c0_11] 25 (0, 0)) by rw [hW1]; exact BA.out)
 replace BB := Aside0.mk (show W1.heap[w.heap.size + 1]? = some (.cells #[.int .i64 a1_0, .int .i64 a1_1, .int .i64 a1_2, .int .i64 a1_3, .int .i64 a1_4, .int .i64 a1_5, .int .i64 a1_6, .int .i64 a1_7, .int .i64 a1_8, .int .i64 a1_9, .int .i64 a1_10, .slice A1_11 l1_11.length c1_11] 25 (0, 0)) by rw [hW1]; exact BB.out)
 replace HBW := Aside0.mk (show Below w.heap.size w W1 by rw [hW1]; exact pw_below_drewN HBW.out nq)
 clear q11 r11 hW1
 go_wp2_with fail
 go_at_call 14
 with_reducible refine (waybillplain_SameBytes.calls A0_11 c0_11 l0_11 A1_11 c1_11 l1_11 b _ (Kd.C_below HR0.out HBW.out) HC0.out (Kd.C_below HR1.out HBW.out) HC1.out HB.out).mono ?_
 rintro e W2 ⟨rfl, hd⟩
 have BA2 := Aside0.mk (blk_below BA.out hd.below)
 have BB2 := Aside0.mk (blk_below BB.out hd.below)
 have HB2 := Aside0.mk (below_then HBW.out HBW.out.size hd.below)
 clear hd BA BB HBW
 dsimp only
 rename_i kk hkk
 refine hkk _ _ ?_
 clear hkk kk
 refine grp (k := .i64) (n := 3) (s0 := 14) (g1 := w.heap.size) (g2 := w.heap.size + 1) (b) a0_0 a1_0 ⟨rfl, rfl, rfl⟩ ⟨rfl, rfl, rfl⟩ ⟨rfl, rfl, rfl⟩ ⟨rfl, rfl, rfl⟩ ⟨rfl, rfl, rfl⟩ ⟨rfl, rfl, rfl⟩ ⟨rfl, rfl, rfl⟩ Try.underlying3 rfl rfl rfl rfl rfl (HF.out _ 0 (by decide)) (HF.out _ 0 (by decide)) ((blk_cell BA2.out 0).trans rfl) ((blk_cell BB2.out 0).trans rfl) fun x0 k0 v0 => ?_
 have z0 : x0.tmps.size = 91 := k0.size
 have m0 : x0.tmps.getD 2 undef = .pointer (some ⟨w.heap.size, 0, none⟩) := k0.slot 2 (by decide)
 have n0 : x0.tmps.getD 3 undef = .pointer (some ⟨w.heap.size + 1, 0, none⟩) := k0.slot 3 (by decide)
 have d0 : x0.defers = [] := k0.defers
 clear k0
 refine grp (k := .i64) (n := 10) (s0 := 21) (g1 := w.heap.size) (g2 := w.heap.size + 1) (b && (a0_0 == a1_0)) a0_1 a1_1 ⟨rfl, rfl, rfl⟩ ⟨rfl, rfl, rfl⟩ ⟨rfl, rfl, rfl⟩ ⟨rfl, rfl, rfl⟩ ⟨rfl, rfl, rfl⟩ ⟨rfl, rfl, rfl⟩ ⟨rfl, rfl, rfl⟩ Try.underlying3 rfl (by rw [z0]; decide) m0 n0 v0 (HF.out _ 1 (by decide)) (HF.out _ 1 (by decide)) ((blk_cell BA2.out 1).trans rfl) ((blk_cell BB2.out 1).trans rfl) fun x1 k1 v1 => ?_
 have z1 := k1.size.trans z0
 have m1 := (k1.slot 2 (by decide)).trans m0
 have n1 := (k1.slot 3 (by decide)).trans n0
 have d1 := k1.defers.trans d0
 clear k1 z0 m0 n0 d0 v0
 refine grp (k := .i64) (n := 17) (s0 := 28) (g1 := w.heap.size) (g2 := w.heap.size + 1) (b && (a0_0 == a1_0) && (a0_1 == a1_1)) a0_2 a1_2 ⟨rfl, rfl, rfl⟩ ⟨rfl, rfl, rfl⟩ ⟨rfl, rfl, rfl⟩ ⟨rfl, rfl, rfl⟩ ⟨rfl, rfl, rfl⟩ ⟨rfl, rfl, rfl⟩ ⟨rfl, rfl, rfl⟩ Try.underlying3 rfl (by rw [z1]; decide) m1 n1 v1 (HF.out _ 2 (by decide)) (HF.out _ 2 (by decide)) ((blk_cell BA2.out 2).trans rfl) ((blk_cell BB2.out 2).trans rfl) fun x2 k2 v2 => ?_
 have z2 := k2.size.trans z1
 have m2 := (k2.slot 2 (by decide)).trans m1
 have n2 := (k2.slot 3 (by decide)).trans n1
 have d2 := k2.defers.trans d1
 clear k2 z1 m1 n1 d1 v1
 refine grp (k := .i64) (n := 24) (s0 := 35) (g1 := w.heap.size) (g2 := w.heap.size + 1) (b && (a0_0 == a1_0) && (a0_1 == a1_1) && (a0_2 == a1_2)) a0_3 a1_3 ⟨rfl, rfl, rfl⟩ ⟨rfl, rfl, rfl⟩ ⟨rfl, rfl, rfl⟩ ⟨rfl, rfl, rfl⟩ ⟨rfl, rfl, rfl⟩ ⟨rfl, rfl, rfl⟩ ⟨rfl, rfl, rfl⟩ Try.underlying3 rfl (by rw [z2]; decide) m2 n2 v2 (HF.out _ 3 (by decide)) (HF.out _ 3 (by decide)) ((blk_cell BA2.out 3).trans rfl) ((blk_cell BB2.out 3).trans rfl) fun x3 k3 v3 => ?_
 have z3 := k3.size.trans z2
 have m3 := (k3.slot 2 (by decide)).trans m2
 have n3 := (k3.slot 3 (by decide)).trans n2
 have d3 := k3.defers.trans d2
 clear k3 z2 m2 n2 d2 v2
 refine grp (k := .i64) (n := 31) (s0 := 42) (g1 := w.heap.size) (g2 := w.heap.size + 1) (b && (a0_0 == a1_0) && (a0_1 == a1_1) && (a0_2 == a1_2) && (a0_3 == a1_3)) a0_4 a1_4 ⟨rfl, rfl, rfl⟩ ⟨rfl, rfl, rfl⟩ ⟨rfl, rfl, rfl⟩ ⟨rfl, rfl, rfl⟩ ⟨rfl, rfl, rfl⟩ ⟨rfl, rfl, rfl⟩ ⟨rfl, rfl, rfl⟩ Try.underlying3 rfl (by rw [z3]; decide) m3 n3 v3 (HF.out _ 4 (by decide)) (HF.out _ 4 (by decide)) ((blk_cell BA2.out 4).trans rfl) ((blk_cell BB2.out 4).trans rfl) fun x4 k4 v4 => ?_
 have z4 := k4.size.trans z3
 have m4 := (k4.slot 2 (by decide)).trans m3
 have n4 := (k4.slot 3 (by decide)).trans n3
 have d4 := k4.defers.trans d3
 clear k4 z3 m3 n3 d3 v3
 refine grp (k := .i64) (n := 38) (s0 := 49) (g1 := w.heap.size) (g2 := w.heap.size + 1) (b && (a0_0 == a1_0) && (a0_1 == a1_1) && (a0_2 == a1_2) && (a0_3 == a1_3) && (a0_4 == a1_4)) a0_5 a1_5 ⟨rfl, rfl, rfl⟩ ⟨rfl, rfl, rfl⟩ ⟨rfl, rfl, rfl⟩ ⟨rfl, rfl, rfl⟩ ⟨rfl, rfl, rfl⟩ ⟨rfl, rfl, rfl⟩ ⟨rfl, rfl, rfl⟩ Try.underlying3 rfl (by rw [z4]; decide) m4 n4 v4 (HF.out _ 5 (by decide)) (HF.out _ 5 (by decide)) ((blk_cell BA2.out 5).trans rfl) ((blk_cell BB2.out 5).trans rfl) fun x5 k5 v5 => ?_
 have z5 := k5.size.trans z4
 have m5 := (k5.slot 2 (by decide)).trans m4
 have n5 := (k5.slot 3 (by decide)).trans n4
 have d5 := k5.defers.trans d4
 clear k5 z4 m4 n4 d4 v4
 refine grp (k := .i64) (n := 45) (s0 := 56) (g1 := w.heap.size) (g2 := w.heap.size + 1) (b && (a0_0 == a1_0) && (a0_1 == a1_1) && (a0_2 == a1_2) && (a0_3 == a1_3) && (a0_4 == a1_4) && (a0_5 == a1_5)) a0_6 a1_6 ⟨rfl, rfl, rfl⟩ ⟨rfl, rfl, rfl⟩ ⟨rfl, rfl, rfl⟩ ⟨rfl, rfl, rfl⟩ ⟨rfl, rfl, rfl⟩ ⟨rfl, rfl, rfl⟩ ⟨rfl, rfl, rfl⟩ Try.underlying3 rfl (by rw [z5]; decide) m5 n5 v5 (HF.out _ 6 (by decide)) (HF.out _ 6 (by decide)) ((blk_cell BA2.out 6).trans rfl) ((blk_cell BB2.out 6).trans rfl) fun x6 k6 v6 => ?_
 have z6 := k6.size.trans z5
 have m6 := (k6.slot 2 (by decide)).trans m5
 have n6 := (k6.slot 3 (by decide)).trans n5
 have d6 := k6.defers.trans d5
 clear k6 z5 m5 n5 d5 v5
 refine grp (k := .i64) (n := 52) (s0 := 63) (g1 := w.heap.size) (g2 := w.heap.size + 1) (b && (a0_0 == a1_0) && (a0_1 == a1_1) && (a0_2 == a1_2) && (a0_3 == a1_3) && (a0_4 == a1_4) && (a0_5 == a1_5) && (a0_6 == a1_6)) a0_7 a1_7 ⟨rfl, rfl, rfl⟩ ⟨rfl, rfl, rfl⟩ ⟨rfl, rfl, rfl⟩ ⟨rfl, rfl, rfl⟩ ⟨rfl, rfl, rfl⟩ ⟨rfl, rfl, rfl⟩ ⟨rfl, rfl, rfl⟩ Try.underlying3 rfl (by rw [z6]; decide) m6 n6 v6 (HF.out _ 7 (by decide)) (HF.out _ 7 (by decide)) ((blk_cell BA2.out 7).trans rfl) ((blk_cell BB2.out 7).trans rfl) fun x7 k7 v7 => ?_
 have z7 := k7.size.trans z6
 have m7 := (k7.slot 2 (by decide)).trans m6
 have n7 := (k7.slot 3 (by decide)).trans n6
 have d7 := k7.defers.trans d6
 clear k7 z6 m6 n6 d6 v6
 refine grp (k := .i64) (n := 59) (s0 := 70) (g1 := w.heap.size) (g2 := w.heap.size + 1) (b && (a0_0 == a1_0) && (a0_1 == a1_1) && (a0_2 == a1_2) && (a0_3 == a1_3) && (a0_4 == a1_4) && (a0_5 == a1_5) && (a0_6 == a1_6) && (a0_7 == a1_7)) a0_8 a1_8 ⟨rfl, rfl, rfl⟩ ⟨rfl, rfl, rfl⟩ ⟨rfl, rfl, rfl⟩ ⟨rfl, rfl, rfl⟩ ⟨rfl, rfl, rfl⟩ ⟨rfl, rfl, rfl⟩ ⟨rfl, rfl, rfl⟩ Try.underlying3 rfl (by rw [z7]; decide) m7 n7 v7 (HF.out _ 8 (by decide)) (HF.out _ 8 (by decide)) ((blk_cell BA2.out 8).trans rfl) ((blk_cell BB2.out 8).trans rfl) fun x8 k8 v8 => ?_
 have z8 := k8.size.trans z7
 have m8 := (k8.slot 2 (by decide)).trans m7
 have n8 := (k8.slot 3 (by decide)).trans n7
 have d8 := k8.defers.trans d7
 clear k8 z7 m7 n7 d7 v7
 refine grp (k := .i64) (n := 66) (s0 := 77) (g1 := w.heap.size) (g2 := w.heap.size + 1) (b && (a0_0 == a1_0) && (a0_1 == a1_1) && (a0_2 == a1_2) && (a0_3 == a1_3) && (a0_4 == a1_4) && (a0_5 == a1_5) && (a0_6 == a1_6) && (a0_7 == a1_7) && (a0_8 == a1_8)) a0_9 a1_9 ⟨rfl, rfl, rfl⟩ ⟨rfl, rfl, rfl⟩ ⟨rfl, rfl, rfl⟩ ⟨rfl, rfl, rfl⟩ ⟨rfl, rfl, rfl⟩ ⟨rfl, rfl, rfl⟩ ⟨rfl, rfl, rfl⟩ Try.underlying3 rfl (by rw [z8]; decide) m8 n8 v8 (HF.out _ 9 (by decide)) (HF.out _ 9 (by decide)) ((blk_cell BA2.out 9).trans rfl) ((blk_cell BB2.out 9).trans rfl) fun x9 k9 v9 => ?_
 have z9 := k9.size.trans z8
 have m9 := (k9.slot 2 (by decide)).trans m8
 have n9 := (k9.slot 3 (by decide)).trans n8
 have d9 := k9.defers.trans d8
 clear k9 z8 m8 n8 d8 v8
 refine grp (k := .i64) (n := 73) (s0 := 84) (g1 := w.heap.size) (g2 := w.heap.size + 1) (b && (a0_0 == a1_0) && (a0_1 == a1_1) && (a0_2 == a1_2) && (a0_3 == a1_3) && (a0_4 == a1_4) && (a0_5 == a1_5) && (a0_6 == a1_6) && (a0_7 == a1_7) && (a0_8 == a1_8) && (a0_9 == a1_9)) a0_10 a1_10 ⟨rfl, rfl, rfl⟩ ⟨rfl, rfl, rfl⟩ ⟨rfl, rfl, rfl⟩ ⟨rfl, rfl, rfl⟩ ⟨rfl, rfl, rfl⟩ ⟨rfl, rfl, rfl⟩ ⟨rfl, rfl, rfl⟩ Try.underlying3 rfl (by rw [z9]; decide) m9 n9 v9 (HF.out _ 10 (by decide)) (HF.out _ 10 (by decide)) ((blk_cell BA2.out 10).trans rfl) ((blk_cell BB2.out 10).trans rfl) fun x10 k10 v10 => ?_
 have z10 := k10.size.trans z9
 have m10 := (k10.slot 2 (by decide)).trans m9
 have n10 := (k10.slot 3 (by decide)).trans n9
 have d10 := k10.defers.trans d9
 clear k10 z9 m9 n9 d9 v9
 refine wl_val (v := .bool (b && (a0_0 == a1_0) && (a0_1 == a1_1) && (a0_2 == a1_2) && (a0_3 == a1_3) && (a0_4 == a1_4) && (a0_5 == a1_5) && (a0_6 == a1_6) && (a0_7 == a1_7) && (a0_8 == a1_8) && (a0_9 == a1_9) && (a0_10 == a1_10))) (w1 := W2) (wanted_none rfl) (by simp [execOp, Act.eval, ← Array.getD_eq_getD_getElem?, v10]) ?_
 refine wpList_nil ?_
 go_wp2_with fail
 exact bodyPost_ret (results_tmp rfl _ _ _) (put_defers.trans d10) ⟨by rw [put_same (by rw [z10]; decide)]; exact congrArg (fun b => Ending.returned (.bool b)) HJ.out, HB2.out⟩
end Go.Proofs.Ytkddlhcpplkpbaa.G
end
section
namespace Go.Proofs.Ytkddlhcpplkpbaa.G
open WB Go.RowKit Go.Proofs.YtkddlhcpplkpbaaW.PrintWords Go.Proofs.YtkddlhcpplkpbaaW.PrintLast Go.Proofs.YtkddlhcpplkpbaaW.PrintMore
attribute [local go_sem] max2_int min2_int max_two min_two max_three min_three max_four min_four   -- for this text's walks alone
def waybillplain_CopyBytes.f (l0 : List Int) : Option (List Int) := if ([] : List Int).length + l0.length < 140737488355328 then (some (([] : List Int) ++ l0)) else (none)
set_option maxHeartbeats 8000000 in
set_option maxRecDepth 100000 in
theorem waybillplain_CopyBytes.calls (A0 : Option Addr) (c0 : Nat) (l0 : List Int) (r : List Int) (w : World) (hr0 : Kd.C (Kd.int .u8) w A0 l0.length l0) (hc0 : l0.length ≤ c0) (h : waybillplain_CopyBytes.f l0 = some r) :
   Calls Try.prog 16 #[.slice A0 l0.length c0] w fun e w' => ∃ v0_ : Value, e = .returned (v0_) ∧ Kd.R (Kd.int .u8) 5 w' w.heap.size (fun _ => True) v0_ r ∧ Below w.heap.size w w' := by
 have HR0 := Aside0.mk hr0
 have HC0 := Aside0.mk hc0
 clear hr0 hc0
 have HB := Aside0.mk (Below.refl w.heap.size w)
 have H : (if ([] : List Int).length + l0.length < 140737488355328 then (some (([] : List Int) ++ l0)) else (none)) = some r := h
 clear h
 by_cases c2 : ([] : List Int).length + l0.length < 140737488355328
 · rw [if_pos c2] at H
   have LMc2 := Aside0.mk c2
   clear c2
   obtain ⟨y175, hy175⟩ : ∃ y_ : List Int, y_ = (([] : List Int) ++ l0) := ⟨_, rfl⟩
   replace H : (some y175) = some r := by first | (rw [hy175]; with_reducible exact H) | (have H2_ := (Option.bind_some _ _).symm.trans H; rw [hy175]; with_reducible exact H2_) | (have H2_ := (Option.bind_some _ _).symm.trans H; with_reducible exact H2_) | with_reducible exact H | (rw [hy175]; exact H) | exact H
   have Ny175 := Aside0.mk hy175
   clear hy175
   obtain rfl := Option.some.inj H
   simp only [Option.some.injEq, Prod.mk.injEq] at H
   obtain ⟨rfl⟩ := H
   go_enter Try.func16, Try.ntmps16
   go_wp2_with (first | ((with_reducible refine gate_builtin (b := .append) (xs := #[.tmp 4, .tmp 5]) rfl ?_); at_builtin; refine Kd.R_append_rows (Kd.int .u8) (w0 := w) w.heap.size rfl (.tmp 4) (.tmp 5) 22 5 (.int .u8 0) 1 rfl Try.underlying22 info5 rfl (by decide) (by omega) (.slice none 0 0) ([] : List Int) l0 _ _ _ (fun _ => True) (fun _ => False) rfl rfl ?aO ?aR (fun _ _ h => h) (fun _ h => h.elim) ?aF ?aB ?aS ?aL ?_; (case aR => repeat (first | exact HR0.out | (with_reducible refine Kd.C_alloc ?_ _) | (with_reducible refine Kd.C_drewN ?_ _) | (with_reducible refine Kd.C_drew ?_))); (case aB => exact (by repeat (first | (with_reducible first | exact HB.out | apply below_alloc | apply pw_below_drewN | apply below_drew1) | exact HB.out))); (case aF => exact (fun _ _ => trivial)); (case aO => exact ((Kd.R_nil _ _ _ _ (fun _ => True)))); (case aS => exact (below_size (by repeat (first | (with_reducible first | exact HB.out | apply below_alloc | apply pw_below_drewN | apply below_drew1) | exact HB.out)))); (case aL => have := LMc2.out; omega); intro v176 w3 ho hb hg hat; rw [← Ny175.out] at ho; have n0_ := Aside0.mk (hb); have n1_ := Aside0.mk (ho); clear HB; have HB := n0_; have HO177 := n1_; clear n0_ n1_; clear ho hb hg hat))
   go_ret
   exact ⟨_, by first | rfl | (simp [errW_none, errW_some] <;> rfl) | (simp [*, errW_none, errW_some] <;> rfl), by (with_reducible repeat (first | apply Kd.R_alloc | apply Kd.R_drewN | apply Kd.R_drew)); exact HO177.out, by repeat (first | (with_reducible first | exact HB.out | apply below_alloc | apply pw_below_drewN | apply below_drew1) | exact HB.out)⟩
 · rw [if_neg c2] at H
   exact absurd H (by simp)
end Go.Proofs.Ytkddlhcpplkpbaa.G
end
section
namespace Go.Proofs.Ytkddlhcpplkpbaa.G
open WB Go.RowKit Go.Proofs.YtkddlhcpplkpbaaW.PrintWords Go.Proofs.YtkddlhcpplkpbaaW.PrintLast Go.Proofs.YtkddlhcpplkpbaaW.PrintMore
attribute [local go_sem] max2_int min2_int max_two min_two max_three min_three max_four min_four   -- for this text's walks alone
/-- The place of a message that a letter tells. -/
def fldOf (c : Int) : Nat := if c = 99 then 1 else if c = 105 then 3 else if c = 115 then 4 else if c = 113 then 5 else if c = 109 then 6 else if c = 110 then 7 else if c = 108 then 8 else if c = 111 then 9 else if c = 112 then 10 else 2
set_option maxHeartbeats 4000000 in
set_option maxRecDepth 100000 in
theorem ref_field (g : Nat) (c : Int) (w : World) : Calls Try.prog 42 #[.pointer (some ⟨g, 0, none⟩), .int .u8 c] w fun e w' => e = .returned (.pointer (some ⟨g, fldOf c, none⟩)) ∧ w = w' := by
 by_cases h0 : c = 99
 · subst h0
   go_enter Try.func42, Try.ntmps42
   go_wp2
   go_ret
   exact ⟨rfl, rfl⟩
 have b0 : (c == 99) = false := beq_eq_false_iff_ne.mpr h0
 by_cases h1 : c = 105
 · subst h1
   clear h0 b0
   go_enter Try.func42, Try.ntmps42
   go_wp2
   go_ret
   exact ⟨rfl, rfl⟩
 have b1 : (c == 105) = false := beq_eq_false_iff_ne.mpr h1
 by_cases h2 : c = 115
 · subst h2
   clear h0 b0 h1 b1
   go_enter Try.func42, Try.ntmps42
   go_wp2
   go_ret
   exact ⟨rfl, rfl⟩
 have b2 : (c == 115) = false := beq_eq_false_iff_ne.mpr h2
 by_cases h3 : c = 113
 · subst h3
   clear h0 b0 h1 b1 h2 b2
   go_enter Try.func42, Try.ntmps42
   go_wp2
   go_ret
   exact ⟨rfl, rfl⟩
 have b3 : (c == 113) = false := beq_eq_false_iff_ne.mpr h3
 by_cases h4 : c = 109
 · subst h4
   clear h0 b0 h1 b1 h2 b2 h3 b3
   go_enter Try.func42, Try.ntmps42
   go_wp2
   go_ret
   exact ⟨rfl, rfl⟩
 have b4 : (c == 109) = false := beq_eq_false_iff_ne.mpr h4
 by_cases h5 : c = 110
 · subst h5
   clear h0 b0 h1 b1 h2 b2 h3 b3 h4 b4
   go_enter Try.func42, Try.ntmps42
   go_wp2
   go_ret
   exact ⟨rfl, rfl⟩
 have b5 : (c == 110) = false := beq_eq_false_iff_ne.mpr h5
 by_cases h6 : c = 108
 · subst h6
   clear h0 b0 h1 b1 h2 b2 h3 b3 h4 b4 h5 b5
   go_enter Try.func42, Try.ntmps42
   go_wp2
   go_ret
   exact ⟨rfl, rfl⟩
 have b6 : (c == 108) = false := beq_eq_false_iff_ne.mpr h6
 by_cases h7 : c = 111
 · subst h7
   clear h0 b0 h1 b1 h2 b2 h3 b3 h4 b4 h5 b5 h6 b6
   go_enter Try.func42, Try.ntmps42
   go_wp2
   go_ret
   exact ⟨rfl, rfl⟩
 have b7 : (c == 111) = false := beq_eq_false_iff_ne.mpr h7
 by_cases h8 : c = 112
 · subst h8
   clear h0 b0 h1 b1 h2 b2 h3 b3 h4 b4 h5 b5 h6 b6 h7 b7
   go_enter Try.func42, Try.ntmps42
   go_wp2
   go_ret
   exact ⟨rfl, rfl⟩
 have b8 : (c == 112) = false := beq_eq_false_iff_ne.mpr h8
 have hf : fldOf c = 2 := by unfold fldOf; rw [if_neg h0, if_neg h1, if_neg h2, if_neg h3, if_neg h4, if_neg h5, if_neg h6, if_neg h7, if_neg h8]
 have HF := Aside0.mk hf
 clear hf h0 h1 h2 h3 h4 h5 h6 h7 h8
 go_enter Try.func42, Try.ntmps42
 go_wp2
 go_ret
 exact ⟨by rw [HF.out]; rfl, rfl⟩
end Go.Proofs.Ytkddlhcpplkpbaa.G
end
section
namespace Go.Proofs.Ytkddlhcpplkpbaa.G
open WB Go.RowKit Go.Proofs.YtkddlhcpplkpbaaW.PrintWords Go.Proofs.YtkddlhcpplkpbaaW.PrintLast Go.Proofs.YtkddlhcpplkpbaaW.PrintMore
attribute [local go_sem] max2_int min2_int max_two min_two max_three min_three max_four min_four   -- for this text's walks alone
def waybillref09_Same.f (a0_0 : Int) (a0_1 : Int) (a0_2 : Int) (a0_3 : Int) (a0_4 : Int) (a0_5 : Int) (a0_6 : Int) (a0_7 : Int) (a0_8 : Int) (a0_9 : Int) (a0_10 : Int) (l0_11 : List Int) (a1_0 : Int) (a1_1 : Int) (a1_2 : Int) (a1_3 : Int) (a1_4 : Int) (a1_5 : Int) (a1_6 : Int) (a1_7 : Int) (a1_8 : Int) (a1_9 : Int) (a1_10 : Int) (l1_11 : List Int) : Option (Bool) := (some ((strOfNums l0_11).toList == (strOfNums l1_11).toList)).bind fun b => some (b && (a0_0 == a1_0) && (a0_1 == a1_1) && (a0_2 == a1_2) && (a0_3 == a1_3) && (a0_4 == a1_4) && (a0_5 == a1_5) && (a0_6 == a1_6) && (a0_7 == a1_7) && (a0_8 == a1_8) && (a0_9 == a1_9) && (a0_10 == a1_10))
set_option maxHeartbeats 8000000 in
set_option maxRecDepth 100000 in
theorem waybillref09_Same.calls (a0_0 : Int) (a0_1 : Int) (a0_2 : Int) (a0_3 : Int) (a0_4 : Int) (a0_5 : Int) (a0_6 : Int) (a0_7 : Int) (a0_8 : Int) (a0_9 : Int) (a0_10 : Int) (A0_11 : Option Addr) (c0_11 : Nat) (l0_11 : List Int) (a1_0 : Int) (a1_1 : Int) (a1_2 : Int) (a1_3 : Int) (a1_4 : Int) (a1_5 : Int) (a1_6 : Int) (a1_7 : Int) (a1_8 : Int) (a1_9 : Int) (a1_10 : Int) (A1_11 : Option Addr) (c1_11 : Nat) (l1_11 : List Int) (r : Bool) (w : World) (hr0_11 : Kd.C (Kd.int .u8) w A0_11 l0_11.length l0_11) (hc0_11 : l0_11.length ≤ c0_11) (hr1_11 : Kd.C (Kd.int .u8) w A1_11 l1_11.length l1_11) (hc1_11 : l1_11.length ≤ c1_11) (h : waybillref09_Same.f a0_0 a0_1 a0_2 a0_3 a0_4 a0_5 a0_6 a0_7 a0_8 a0_9 a0_10 l0_11 a1_0 a1_1 a1_2 a1_3 a1_4 a1_5 a1_6 a1_7 a1_8 a1_9 a1_10 l1_11 = some r) :
  Calls Try.prog 49 #[.agg #[.int .i64 a0_0, .int .i64 a0_1, .int .i64 a0_2, .int .i64 a0_3, .int .i64 a0_4, .int .i64 a0_5, .int .i64 a0_6, .int .i64 a0_7, .int .i64 a0_8, .int .i64 a0_9, .int .i64 a0_10, .slice A0_11 l0_11.length c0_11], .agg #[.int .i64 a1_0, .int .i64 a1_1, .int .i64 a1_2, .int .i64 a1_3, .int .i64 a1_4, .int .i64 a1_5, .int .i64 a1_6, .int .i64 a1_7, .int .i64 a1_8, .int .i64 a1_9, .int .i64 a1_10, .slice A1_11 l1_11.length c1_11]] w fun e w' => e = .returned (.bool r) ∧ Below w.heap.size w w' := by
 unfold waybillref09_Same.f at h
 obtain ⟨b, hb, h⟩ := Option.bind_eq_some_iff.1 h
 have HB := Aside0.mk hb
 have HR0 := Aside0.mk hr0_11
 have HC0 := Aside0.mk hc0_11
 have HR1 := Aside0.mk hr1_11
 have HC1 := Aside0.mk hc1_11
 have HJ := Aside0.mk (Option.some.inj h)
 clear hr0_11 hc0_11 hr1_11 hc1_11 hb h
 have hf : ∀ (g j : Nat), j < 12 → ∀ W, (Instr.fieldAt 25 (.pointer (some ⟨g, 0, none⟩)) j).run Try.prog W = .ok (.pointer (some ⟨g, j, none⟩)) W := by
  intro g j hj W
  match j, hj with
  | 0, _ => rfl
  | 1, _ => rfl
  | 2, _ => rfl
  | 3, _ => rfl
  | 4, _ => rfl
  | 5, _ => rfl
  | 6, _ => rfl
  | 7, _ => rfl
  | 8, _ => rfl
  | 9, _ => rfl
  | 10, _ => rfl
  | 11, _ => rfl
 obtain ⟨W0, hW0⟩ : ∃ W, W = (w.alloc (.cells #[.int .i64 a0_0, .int .i64 a0_1, .int .i64 a0_2, .int .i64 a0_3, .int .i64 a0_4, .int .i64 a0_5, .int .i64 a0_6, .int .i64 a0_7, .int .i64 a0_8, .int .i64 a0_9, .int .i64 a0_10, .slice A0_11 l0_11.length c0_11] 25)).alloc (.cells #[.int .i64 a1_0, .int .i64 a1_1, .int .i64 a1_2, .int .i64 a1_3, .int .i64 a1_4, .int .i64 a1_5, .int .i64 a1_6, .int .i64 a1_7, .int .i64 a1_8, .int .i64 a1_9, .int .i64 a1_10, .slice A1_11 l1_11.length c1_11] 25) := ⟨_, rfl⟩
 have BA := Aside0.mk (show W0.heap[w.heap.size]? = some (.cells #[.int .i64 a0_0, .int .i64 a0_1, .int .i64 a0_2, .int .i64 a0_3, .int .i64 a0_4, .int .i64 a0_5, .int .i64 a0_6, .int .i64 a0_7, .int .i64 a0_8, .int .i64 a0_9, .int .i64 a0_10, .slice A0_11 l0_11.length c0_11] 25 (0, 0)) by rw [hW0]; exact blk_alloc (heap_new1 _ _) _)
 have BB := Aside0.mk (show W0.heap[w.heap.size + 1]? = some (.cells #[.int .i64 a1_0, .int .i64 a1_1, .int .i64 a1_2, .int .i64 a1_3, .int .i64 a1_4, .int .i64 a1_5, .int .i64 a1_6, .int .i64 a1_7, .int .i64 a1_8, .int .i64 a1_9, .int .i64 a1_10, .slice A1_11 l1_11.length c1_11] 25 (0, 0)) by rw [hW0]; exact heap_new2 _ _ _)
 have HBW := Aside0.mk (show Below w.heap.size w W0 by rw [hW0]; exact below_alloc (below_alloc (Below.refl _ _) _) _)
 have HW := Aside0.mk hW0
 have q11 : W0.cell? ⟨w.heap.size, 11, none⟩ = some (.slice A0_11 l0_11.length c0_11) := (blk_cell BA.out 11).trans rfl
 have r11 : W0.cell? ⟨w.heap.size + 1, 11, none⟩ = some (.slice A1_11 l1_11.length c1_11) := (blk_cell BB.out 11).trans rfl
 clear hW0
 have HF := Aside0.mk hf
 have hcv0 := Kd.C_string (P := Try.prog) (A := A0_11) (c := c0_11) Try.underlying22 Try.underlying5 Try.underlying9 (Kd.C_below HR0.out HBW.out)
 have hcv1 := Kd.C_string (P := Try.prog) (A := A1_11) (c := c1_11) Try.underlying22 Try.underlying5 Try.underlying9 (Kd.C_below HR1.out HBW.out)
 have hbb := Option.some.inj HB.out
 clear hf
 go_enter Try.func49, Try.ntmps49
 go_upto_region 1 with fail
 rw [← HW.out]
 clear HW
 refine wp_region_list ?_
 go_step
 go_step
 go_step
 go_step
 go_step
 go_step
 go_step
 go_step
 go_step
 go_step
 go_step
 go_step
 go_step
 go_step
 clear q11 r11 hcv0 hcv1 hbb
 obtain ⟨W2, hW2⟩ : ∃ W, W = W0 := ⟨_, rfl⟩
 rw [← hW2]
 have BA2 := Aside0.mk (show W2.heap[w.heap.size]? = some (.cells #[.int .i64 a0_0, .int .i64 a0_1, .int .i64 a0_2, .int .i64 a0_3, .int .i64 a0_4, .int .i64 a0_5, .int .i64 a0_6, .int .i64 a0_7, .int .i64 a0_8, .int .i64 a0_9, .int .i64 a0_10, .slice A0_11 l0_11.length c0_11] 25 (0, 0)) by rw [hW2]; exact BA.out)
 have BB2 := Aside0.mk (show W2.heap[w.heap.size + 1]? = some (.cells #[.int .i64 a1_0, .int .i64 a1_1, .int .i64 a1_2, .int .i64 a1_3, .int .i64 a1_4, .int .i64 a1_5, .int .i64 a1_6, .int .i64 a1_7, .int .i64 a1_8, .int .i64 a1_9, .int .i64 a1_10, .slice A1_11 l1_11.length c1_11] 25 (0, 0)) by rw [hW2]; exact BB.out)
 have HB2 := Aside0.mk (show Below w.heap.size w W2 by rw [hW2]; exact HBW.out)
 clear hW2 BA BB HBW
 refine grp (k := .i64) (n := 7) (s0 := 12) (g1 := w.heap.size) (g2 := w.heap.size + 1) (b) a0_0 a1_0 ⟨rfl, rfl, rfl⟩ ⟨rfl, rfl, rfl⟩ ⟨rfl, rfl, rfl⟩ ⟨rfl, rfl, rfl⟩ ⟨rfl, rfl, rfl⟩ ⟨rfl, rfl, rfl⟩ ⟨rfl, rfl, rfl⟩ Try.underlying3 rfl rfl rfl rfl rfl (HF.out _ 0 (by decide)) (HF.out _ 0 (by decide)) ((blk_cell BA2.out 0).trans rfl) ((blk_cell BB2.out 0).trans rfl) fun x0 k0 v0 => ?_
 have z0 : x0.tmps.size = 89 := k0.size
 have m0 : x0.tmps.getD 2 undef = .pointer (some ⟨w.heap.size, 0, none⟩) := k0.slot 2 (by decide)
 have n0 : x0.tmps.getD 3 undef = .pointer (some ⟨w.heap.size + 1, 0, none⟩) := k0.slot 3 (by decide)
 have d0 : x0.defers = [] := k0.defers
 clear k0
 refine grp (k := .i64) (n := 14) (s0 := 19) (g1 := w.heap.size) (g2 := w.heap.size + 1) (b && (a0_0 == a1_0)) a0_1 a1_1 ⟨rfl, rfl, rfl⟩ ⟨rfl, rfl, rfl⟩ ⟨rfl, rfl, rfl⟩ ⟨rfl, rfl, rfl⟩ ⟨rfl, rfl, rfl⟩ ⟨rfl, rfl, rfl⟩ ⟨rfl, rfl, rfl⟩ Try.underlying3 rfl (by rw [z0]; decide) m0 n0 v0 (HF.out _ 1 (by decide)) (HF.out _ 1 (by decide)) ((blk_cell BA2.out 1).trans rfl) ((blk_cell BB2.out 1).trans rfl) fun x1 k1 v1 => ?_
 have z1 := k1.size.trans z0
 have m1 := (k1.slot 2 (by decide)).trans m0
 have n1 := (k1.slot 3 (by decide)).trans n0
 have d1 := k1.defers.trans d0
 clear k1 z0 m0 n0 d0 v0
 refine grp (k := .i64) (n := 21) (s0 := 26) (g1 := w.heap.size) (g2 := w.heap.size + 1) (b && (a0_0 == a1_0) && (a0_1 == a1_1)) a0_2 a1_2 ⟨rfl, rfl, rfl⟩ ⟨rfl, rfl, rfl⟩ ⟨rfl, rfl, rfl⟩ ⟨rfl, rfl, rfl⟩ ⟨rfl, rfl, rfl⟩ ⟨rfl, rfl, rfl⟩ ⟨rfl, rfl, rfl⟩ Try.underlying3 rfl (by rw [z1]; decide) m1 n1 v1 (HF.out _ 2 (by decide)) (HF.out _ 2 (by decide)) ((blk_cell BA2.out 2).trans rfl) ((blk_cell BB2.out 2).trans rfl) fun x2 k2 v2 => ?_
 have z2 := k2.size.trans z1
 have m2 := (k2.slot 2 (by decide)).trans m1
 have n2 := (k2.slot 3 (by decide)).trans n1
 have d2 := k2.defers.trans d1
 clear k2 z1 m1 n1 d1 v1
 refine grp (k := .i64) (n := 28) (s0 := 33) (g1 := w.heap.size) (g2 := w.heap.size + 1) (b && (a0_0 == a1_0) && (a0_1 == a1_1) && (a0_2 == a1_2)) a0_3 a1_3 ⟨rfl, rfl, rfl⟩ ⟨rfl, rfl, rfl⟩ ⟨rfl, rfl, rfl⟩ ⟨rfl, rfl, rfl⟩ ⟨rfl, rfl, rfl⟩ ⟨rfl, rfl, rfl⟩ ⟨rfl, rfl, rfl⟩ Try.underlying3 rfl (by rw [z2]; decide) m2 n2 v2 (HF.out _ 3 (by decide)) (HF.out _ 3 (by decide)) ((blk_cell BA2.out 3).trans rfl) ((blk_cell BB2.out 3).trans rfl) fun x3 k3 v3 => ?_
 have z3 := k3.size.trans z2
 have m3 := (k3.slot 2 (by decide)).trans m2
 have n3 := (k3.slot 3 (by decide)).trans n2
 have d3 := k3.defers.trans d2
 clear k3 z2 m2 n2 d2 v2
 refine grp (k := .i64) (n := 35) (s0 := 40) (g1 := w.heap.size) (g2 := w.heap.size + 1) (b && (a0_0 == a1_0) && (a0_1 == a1_1) && (a0_2 == a1_2) && (a0_3 == a1_3)) a0_4 a1_4 ⟨rfl, rfl, rfl⟩ ⟨rfl, rfl, rfl⟩ ⟨rfl, rfl, rfl⟩ ⟨rfl, rfl, rfl⟩ ⟨rfl, rfl, rfl⟩ ⟨rfl, rfl, rfl⟩ ⟨rfl, rfl, rfl⟩ Try.underlying3 rfl (by rw [z3]; decide) m3 n3 v3 (HF.out _ 4 (by decide)) (HF.out _ 4 (by decide)) ((blk_cell BA2.out 4).trans rfl) ((blk_cell BB2.out 4).trans rfl) fun x4 k4 v4 => ?_
 have z4 := k4.size.trans z3
 have m4 := (k4.slot 2 (by decide)).trans m3
 have n4 := (k4.slot 3 (by decide)).trans n3
 have d4 := k4.defers.trans d3
 clear k4 z3 m3 n3 d3 v3
 refine grp (k := .i64) (n := 42) (s0 := 47) (g1 := w.heap.size) (g2 := w.heap.size + 1) (b && (a0_0 == a1_0) && (a0_1 == a1_1) && (a0_2 == a1_2) && (a0_3 == a1_3) && (a0_4 == a1_4)) a0_5 a1_5 ⟨rfl, rfl, rfl⟩ ⟨rfl, rfl, rfl⟩ ⟨rfl, rfl, rfl⟩ ⟨rfl, rfl, rfl⟩ ⟨rfl, rfl, rfl⟩ ⟨rfl, rfl, rfl⟩ ⟨rfl, rfl, rfl⟩ Try.underlying3 rfl (by rw [z4]; decide) m4 n4 v4 (HF.out _ 5 (by decide)) (HF.out _ 5 (by decide)) ((blk_cell BA2.out 5).trans rfl) ((blk_cell BB2.out 5).trans rfl) fun x5 k5 v5 => ?_
 have z5 := k5.size.trans z4
 have m5 := (k5.slot 2 (by decide)).trans m4
 have n5 := (k5.slot 3 (by decide)).trans n4
 have d5 := k5.defers.trans d4
 clear k5 z4 m4 n4 d4 v4
 refine grp (k := .i64) (n := 49) (s0 := 54) (g1 := w.heap.size) (g2 := w.heap.size + 1) (b && (a0_0 == a1_0) && (a0_1 == a1_1) && (a0_2 == a1_2) && (a0_3 == a1_3) && (a0_4 == a1_4) && (a0_5 == a1_5)) a0_6 a1_6 ⟨rfl, rfl, rfl⟩ ⟨rfl, rfl, rfl⟩ ⟨rfl, rfl, rfl⟩ ⟨rfl, rfl, rfl⟩ ⟨rfl, rfl, rfl⟩ ⟨rfl, rfl, rfl⟩ ⟨rfl, rfl, rfl⟩ Try.underlying3 rfl (by rw [z5]; decide) m5 n5 v5 (HF.out _ 6 (by decide)) (HF.out _ 6 (by decide)) ((blk_cell BA2.out 6).trans rfl) ((blk_cell BB2.out 6).trans rfl) fun x6 k6 v6 => ?_
 have z6 := k6.size.trans z5
 have m6 := (k6.slot 2 (by decide)).trans m5
 have n6 := (k6.slot 3 (by decide)).trans n5
 have d6 := k6.defers.trans d5
 clear k6 z5 m5 n5 d5 v5
 refine grp (k := .i64) (n := 56) (s0 := 61) (g1 := w.heap.size) (g2 := w.heap.size + 1) (b && (a0_0 == a1_0) && (a0_1 == a1_1) && (a0_2 == a1_2) && (a0_3 == a1_3) && (a0_4 == a1_4) && (a0_5 == a1_5) && (a0_6 == a1_6)) a0_7 a1_7 ⟨rfl, rfl, rfl⟩ ⟨rfl, rfl, rfl⟩ ⟨rfl, rfl, rfl⟩ ⟨rfl, rfl, rfl⟩ ⟨rfl, rfl, rfl⟩ ⟨rfl, rfl, rfl⟩ ⟨rfl, rfl, rfl⟩ Try.underlying3 rfl (by rw [z6]; decide) m6 n6 v6 (HF.out _ 7 (by decide)) (HF.out _ 7 (by decide)) ((blk_cell BA2.out 7).trans rfl) ((blk_cell BB2.out 7).trans rfl) fun x7 k7 v7 => ?_
 have z7 := k7.size.trans z6
 have m7 := (k7.slot 2 (by decide)).trans m6
 have n7 := (k7.slot 3 (by decide)).trans n6
 have d7 := k7.defers.trans d6
 clear k7 z6 m6 n6 d6 v6
 refine grp (k := .i64) (n := 63) (s0 := 68) (g1 := w.heap.size) (g2 := w.heap.size + 1) (b && (a0_0 == a1_0) && (a0_1 == a1_1) && (a0_2 == a1_2) && (a0_3 == a1_3) && (a0_4 == a1_4) && (a0_5 == a1_5) && (a0_6 == a1_6) && (a0_7 == a1_7)) a0_8 a1_8 ⟨rfl, rfl, rfl⟩ ⟨rfl, rfl, rfl⟩ ⟨rfl, rfl, rfl⟩ ⟨rfl, rfl, rfl⟩ ⟨rfl, rfl, rfl⟩ ⟨rfl, rfl, rfl⟩ ⟨rfl, rfl, rfl⟩ Try.underlying3 rfl (by rw [z7]; decide) m7 n7 v7 (HF.out _ 8 (by decide)) (HF.out _ 8 (by decide)) ((blk_cell BA2.out 8).trans rfl) ((blk_cell BB2.out 8).trans rfl) fun x8 k8 v8 => ?_
 have z8 := k8.size.trans z7
 have m8 := (k8.slot 2 (by decide)).trans m7
 have n8 := (k8.slot 3 (by decide)).trans n7
 have d8 := k8.defers.trans d7
 clear k8 z7 m7 n7 d7 v7
 refine grp (k := .i64) (n := 70) (s0 := 75) (g1 := w.heap.size) (g2 := w.heap.size + 1) (b && (a0_0 == a1_0) && (a0_1 == a1_1) && (a0_2 == a1_2) && (a0_3 == a1_3) && (a0_4 == a1_4) && (a0_5 == a1_5) && (a0_6 == a1_6) && (a0_7 == a1_7) && (a0_8 == a1_8)) a0_9 a1_9 ⟨rfl, rfl, rfl⟩ ⟨rfl, rfl, rfl⟩ ⟨rfl, rfl, rfl⟩ ⟨rfl, rfl, rfl⟩ ⟨rfl, rfl, rfl⟩ ⟨rfl, rfl, rfl⟩ ⟨rfl, rfl, rfl⟩ Try.underlying3 rfl (by rw [z8]; decide) m8 n8 v8 (HF.out _ 9 (by decide)) (HF.out _ 9 (by decide)) ((blk_cell BA2.out 9).trans rfl) ((blk_cell BB2.out 9).trans rfl) fun x9 k9 v9 => ?_
 have z9 := k9.size.trans z8
 have m9 := (k9.slot 2 (by decide)).trans m8
 have n9 := (k9.slot 3 (by decide)).trans n8
 have d9 := k9.defers.trans d8
 clear k9 z8 m8 n8 d8 v8
 refine grp (k := .i64) (n := 77) (s0 := 82) (g1 := w.heap.size) (g2 := w.heap.size + 1) (b && (a0_0 == a1_0) && (a0_1 == a1_1) && (a0_2 == a1_2) && (a0_3 == a1_3) && (a0_4 == a1_4) && (a0_5 == a1_5) && (a0_6 == a1_6) && (a0_7 == a1_7) && (a0_8 == a1_8) && (a0_9 == a1_9)) a0_10 a1_10 ⟨rfl, rfl, rfl⟩ ⟨rfl, rfl, rfl⟩ ⟨rfl, rfl, rfl⟩ ⟨rfl, rfl, rfl⟩ ⟨rfl, rfl, rfl⟩ ⟨rfl, rfl, rfl⟩ ⟨rfl, rfl, rfl⟩ Try.underlying3 rfl (by rw [z9]; decide) m9 n9 v9 (HF.out _ 10 (by decide)) (HF.out _ 10 (by decide)) ((blk_cell BA2.out 10).trans rfl) ((blk_cell BB2.out 10).trans rfl) fun x10 k10 v10 => ?_
 have z10 := k10.size.trans z9
 have m10 := (k10.slot 2 (by decide)).trans m9
 have n10 := (k10.slot 3 (by decide)).trans n9
 have d10 := k10.defers.trans d9
 clear k10 z9 m9 n9 d9 v9
 refine wl_val (v := .bool (b && (a0_0 == a1_0) && (a0_1 == a1_1) && (a0_2 == a1_2) && (a0_3 == a1_3) && (a0_4 == a1_4) && (a0_5 == a1_5) && (a0_6 == a1_6) && (a0_7 == a1_7) && (a0_8 == a1_8) && (a0_9 == a1_9) && (a0_10 == a1_10))) (w1 := W2) (wanted_none rfl) (by simp [execOp, Act.eval, ← Array.getD_eq_getD_getElem?, v10]) ?_
 refine wpList_nil ?_
 go_wp2_with fail
 exact bodyPost_ret (results_tmp rfl _ _ _) (put_defers.trans d10) ⟨by rw [put_same (by rw [z10]; decide)]; exact congrArg (fun b => Ending.returned (.bool b)) HJ.out, HB2.out⟩
end Go.Proofs.Ytkddlhcpplkpbaa.G
end
section
namespace Go.Proofs.Ytkddlhcpplkpbaa.G
open WB Go.RowKit Go.Proofs.YtkddlhcpplkpbaaW.PrintWords Go.Proofs.YtkddlhcpplkpbaaW.PrintLast Go.Proofs.YtkddlhcpplkpbaaW.PrintMore
attribute [local go_sem] max2_int min2_int max_two min_two max_three min_three max_four min_four   -- for this text's walks alone
def waybillref09_form.j0 : Nat → Int → Bool → Option (ByteArray)
 | 0, _, _ => none
 | k + 1, x3, x4 => if x4 = true then (some (⟨#[99, 110]⟩ : ByteArray)) else (if x3 = 2 then (some (⟨#[99, 105, 115, 110]⟩ : ByteArray)) else (if x3 = 3 then (some (⟨#[99, 105, 115, 113, 109, 108, 100]⟩ : ByteArray)) else (if x3 = 4 then (some (⟨#[99, 105, 115, 113, 111, 112, 100]⟩ : ByteArray)) else (if x3 = 5 then (some (⟨#[99, 105, 115, 113, 109]⟩ : ByteArray)) else (if x3 = 6 then (some (⟨#[99, 105, 115, 113]⟩ : ByteArray)) else (if x3 = 7 then (some (⟨#[99, 105, 115, 113]⟩ : ByteArray)) else (some (⟨#[]⟩ : ByteArray))))))))
def waybillref09_form.f (k : Nat) (a0 : Int) : Option (ByteArray) := if a0 = 1 then (waybillref09_form.j0 k a0 (a0 == 1)) else (waybillref09_form.j0 k a0 (a0 == 8))
theorem waybillref09_form.mono_l : ∀ k, (∀ y0 y1, LeO (waybillref09_form.j0 k y0 y1) (waybillref09_form.j0 (k + 1) y0 y1))
 | 0 => fun _ _ r h => by simp [waybillref09_form.j0] at h
 | k + 1 => by
  have ih0 := waybillref09_form.mono_l k
  · intro y0 y1
    unfold waybillref09_form.j0
    repeat' first
    | (with_reducible exact ih0 _ _)
    | (with_reducible exact LeO.refl _)
    | (with_reducible exact LeO.none _)
    | (with_reducible refine LeO.ite ?_ ?_)
    | (with_reducible refine LeO.bind ?_ (fun _ => ?_))
    | exact ih0 _ _
    | exact LeO.none _
    | refine LeO.ite ?_ ?_
    | refine LeO.bind ?_ (fun _ => ?_)
theorem waybillref09_form.mono : ∀ a0 k, LeO (waybillref09_form.f k a0) (waybillref09_form.f (k + 1) a0) := by
 intro a0 k
 have ih0 := waybillref09_form.mono_l k
 unfold waybillref09_form.f
 repeat' first
  | (with_reducible exact ih0 _ _)
  | (with_reducible exact LeO.refl _)
  | (with_reducible exact LeO.none _)
  | (with_reducible refine LeO.ite ?_ ?_)
  | (with_reducible refine LeO.bind ?_ (fun _ => ?_))
  | exact ih0 _ _
  | exact LeO.none _
  | refine LeO.ite ?_ ?_
  | refine LeO.bind ?_ (fun _ => ?_)
set_option maxHeartbeats 8000000 in
set_option maxRecDepth 100000 in
theorem waybillref09_form.calls (k : Nat) (a0 : Int) (r : ByteArray) (w : World) (h : waybillref09_form.f k a0 = some r) :
  Calls Try.prog 40 #[.int .i64 a0] w fun e w' => e = .returned (.string r) ∧ Drawn0 w w' := by
 have H : (if a0 = 1 then (waybillref09_form.j0 k a0 (a0 == 1)) else (waybillref09_form.j0 k a0 (a0 == 8))) = some r := h
 clear h
 have HC2 := Aside0.mk H
 clear H
 go_enter Try.func40, Try.ntmps40
 go_upto_if 4 with (fail)
 go_cut [4] (fun v4 wc => ∃ (kq : Nat) (x4_1 : Bool), v4 = .bool x4_1 ∧ Aside0 (waybillref09_form.j0 kq a0 x4_1 = some r) ∧ Aside0 (kq ≤ k) ∧ Drawn0 w wc)
 case first =>
  have H := HC2.out
  clear HC2
  by_cases c3 : a0 = 1
  · rw [if_pos c3] at H
    have c3b0 : (a0 == 1) = true := beq_iff_eq.mpr c3
    have c3b1 : (a0 != 1) = false := bne_eq_false_iff_eq.mpr c3
    clear c3
    (first | rw [c3b0] | (simp only [i64_w, i32_w]; rw [c3b0]) | skip)
    have H' := Aside0.mk H
    clear H
    go_wp2
    go_meet
    case rel => exact ⟨_, ((a0 == 1)), (by first | rfl | (simp; done) | (simp [*]; done)), H', ⟨by first | omega | exact Nat.le_refl _⟩, by repeat (first | exact Drawn0.refl _ | apply Drawn0.step)⟩
  · rw [if_neg c3] at H
    have c3b0 : (a0 == 1) = false := beq_eq_false_iff_ne.mpr c3
    have c3b1 : (a0 != 1) = true := bne_iff_ne.mpr c3
    (first | rw [c3b0] | (simp only [i64_w, i32_w]; rw [c3b0]) | skip)
    have H' := Aside0.mk H
    clear H
    go_wp2
    go_meet
    case rel => exact ⟨_, ((a0 == 8)), (by first | rfl | (simp; done) | (simp [*]; done)), H', ⟨by first | omega | exact Nat.le_refl _⟩, by repeat (first | exact Drawn0.refl _ | apply Drawn0.step)⟩
 case rest =>
  clear HC2
  try clear p2
  try clear c3
  try clear c3b0
  try clear c3b1
  obtain ⟨kq, x4_1, rfl, HA, HJ1, ⟨mc1, rfl⟩⟩ := hcut
  cases kq with
  | zero => exact absurd HA.out (by simp [waybillref09_form.j0])
  | succ kj1 =>
    have H := HA.out
    clear HA
    simp only [waybillref09_form.j0] at H
    by_cases c4 : x4_1 = true
    · subst c4
      have H1 : (some (⟨#[99, 110]⟩ : ByteArray)) = some r := by rw [if_pos rfl] at H; exact H
      clear H
      have H := H1
      clear H1
      obtain rfl := Option.some.inj H
      simp only [Option.some.injEq, Prod.mk.injEq] at H
      obtain ⟨rfl⟩ := H
      go_wp2
      go_ret
      exact ⟨by first | rfl | (simp; done) | (simp [*]; done), by repeat (first | exact Drawn0.refl _ | apply Drawn0.step)⟩
    · replace c4 := Bool.eq_false_iff.mpr c4
      subst c4
      have H1 : (if a0 = 2 then (some (⟨#[99, 105, 115, 110]⟩ : ByteArray)) else (if a0 = 3 then (some (⟨#[99, 105, 115, 113, 109, 108, 100]⟩ : ByteArray)) else (if a0 = 4 then (some (⟨#[99, 105, 115, 113, 111, 112, 100]⟩ : ByteArray)) else (if a0 = 5 then (some (⟨#[99, 105, 115, 113, 109]⟩ : ByteArray)) else (if a0 = 6 then (some (⟨#[99, 105, 115, 113]⟩ : ByteArray)) else (if a0 = 7 then (some (⟨#[99, 105, 115, 113]⟩ : ByteArray)) else (some (⟨#[]⟩ : ByteArray)))))))) = some r := by rw [if_neg (show ¬ (false = true) by decide)] at H; exact H
      clear H
      have H := H1
      clear H1
      by_cases c5 : a0 = 2
      · rw [if_pos c5] at H
        have c5b0 : (a0 == 2) = true := beq_iff_eq.mpr c5
        have c5b1 : (a0 != 2) = false := bne_eq_false_iff_eq.mpr c5
        clear c5
        obtain rfl := Option.some.inj H
        simp only [Option.some.injEq, Prod.mk.injEq] at H
        obtain ⟨rfl⟩ := H
        go_wp2
        go_ret
        exact ⟨by first | rfl | (simp; done) | (simp [*]; done), by repeat (first | exact Drawn0.refl _ | apply Drawn0.step)⟩
      · rw [if_neg c5] at H
        have c5b0 : (a0 == 2) = false := beq_eq_false_iff_ne.mpr c5
        have c5b1 : (a0 != 2) = true := bne_iff_ne.mpr c5
        by_cases c6 : a0 = 3
        · rw [if_pos c6] at H
          have c6b0 : (a0 == 3) = true := beq_iff_eq.mpr c6
          have c6b1 : (a0 != 3) = false := bne_eq_false_iff_eq.mpr c6
          clear c6
          obtain rfl := Option.some.inj H
          simp only [Option.some.injEq, Prod.mk.injEq] at H
          obtain ⟨rfl⟩ := H
          go_wp2
          go_ret
          exact ⟨by first | rfl | (simp; done) | (simp [*]; done), by repeat (first | exact Drawn0.refl _ | apply Drawn0.step)⟩
        · rw [if_neg c6] at H
          have c6b0 : (a0 == 3) = false := beq_eq_false_iff_ne.mpr c6
          have c6b1 : (a0 != 3) = true := bne_iff_ne.mpr c6
          by_cases c7 : a0 = 4
          · rw [if_pos c7] at H
            have c7b0 : (a0 == 4) = true := beq_iff_eq.mpr c7
            have c7b1 : (a0 != 4) = false := bne_eq_false_iff_eq.mpr c7
            clear c7
            obtain rfl := Option.some.inj H
            simp only [Option.some.injEq, Prod.mk.injEq] at H
            obtain ⟨rfl⟩ := H
            go_wp2
            go_ret
            exact ⟨by first | rfl | (simp; done) | (simp [*]; done), by repeat (first | exact Drawn0.refl _ | apply Drawn0.step)⟩
          · rw [if_neg c7] at H
            have c7b0 : (a0 == 4) = false := beq_eq_false_iff_ne.mpr c7
            have c7b1 : (a0 != 4) = true := bne_iff_ne.mpr c7
            by_cases c8 : a0 = 5
            · rw [if_pos c8] at H
              have c8b0 : (a0 == 5) = true := beq_iff_eq.mpr c8
              have c8b1 : (a0 != 5) = false := bne_eq_false_iff_eq.mpr c8
              clear c8
              obtain rfl := Option.some.inj H
              simp only [Option.some.injEq, Prod.mk.injEq] at H
              obtain ⟨rfl⟩ := H
              go_wp2
              go_ret
              exact ⟨by first | rfl | (simp; done) | (simp [*]; done), by repeat (first | exact Drawn0.refl _ | apply Drawn0.step)⟩
            · rw [if_neg c8] at H
              have c8b0 : (a0 == 5) = false := beq_eq_false_iff_ne.mpr c8
              have c8b1 : (a0 != 5) = true := bne_iff_ne.mpr c8
              by_cases c9 : a0 = 6
              · rw [if_pos c9] at H
                have c9b0 : (a0 == 6) = true := beq_iff_eq.mpr c9
                have c9b1 : (a0 != 6) = false := bne_eq_false_iff_eq.mpr c9
                clear c9
                obtain rfl := Option.some.inj H
                simp only [Option.some.injEq, Prod.mk.injEq] at H
                obtain ⟨rfl⟩ := H
                go_wp2
                go_ret
                exact ⟨by first | rfl | (simp; done) | (simp [*]; done), by repeat (first | exact Drawn0.refl _ | apply Drawn0.step)⟩
              · rw [if_neg c9] at H
                have c9b0 : (a0 == 6) = false := beq_eq_false_iff_ne.mpr c9
                have c9b1 : (a0 != 6) = true := bne_iff_ne.mpr c9
                by_cases c10 : a0 = 7
                · rw [if_pos c10] at H
                  have c10b0 : (a0 == 7) = true := beq_iff_eq.mpr c10
                  have c10b1 : (a0 != 7) = false := bne_eq_false_iff_eq.mpr c10
                  clear c10
                  obtain rfl := Option.some.inj H
                  simp only [Option.some.injEq, Prod.mk.injEq] at H
                  obtain ⟨rfl⟩ := H
                  go_wp2
                  go_ret
                  exact ⟨by first | rfl | (simp; done) | (simp [*]; done), by repeat (first | exact Drawn0.refl _ | apply Drawn0.step)⟩
                · rw [if_neg c10] at H
                  have c10b0 : (a0 == 7) = false := beq_eq_false_iff_ne.mpr c10
                  have c10b1 : (a0 != 7) = true := bne_iff_ne.mpr c10
                  obtain rfl := Option.some.inj H
                  simp only [Option.some.injEq, Prod.mk.injEq] at H
                  obtain ⟨rfl⟩ := H
                  go_wp2
                  go_ret
                  exact ⟨by first | rfl | (simp; done) | (simp [*]; done), by repeat (first | exact Drawn0.refl _ | apply Drawn0.step)⟩
end Go.Proofs.Ytkddlhcpplkpbaa.G
end
section
namespace Go.Proofs.Ytkddlhcpplkpbaa.G
open WB Go.RowKit Go.Proofs.YtkddlhcpplkpbaaW.PrintWords Go.Proofs.YtkddlhcpplkpbaaW.PrintLast Go.Proofs.YtkddlhcpplkpbaaW.PrintMore
attribute [local go_sem] max2_int min2_int max_two min_two max_three min_three max_four min_four   -- for this text's walks alone
def waybillref01_Copied.f (l0 : List Int) : Option (List Int) := if ([] : List Int).length + l0.length < 140737488355328 then (some (([] : List Int) ++ l0)) else (none)
set_option maxHeartbeats 8000000 in
set_option maxRecDepth 100000 in
theorem waybillref01_Copied.calls (A0 : Option Addr) (c0 : Nat) (l0 : List Int) (r : List Int) (w : World) (hr0 : Kd.C (Kd.int .u8) w A0 l0.length l0) (hc0 : l0.length ≤ c0) (h : waybillref01_Copied.f l0 = some r) :
   Calls Try.prog 61 #[.slice A0 l0.length c0] w fun e w' => ∃ v0_ : Value, e = .returned (v0_) ∧ Kd.R (Kd.int .u8) 5 w' w.heap.size (fun _ => True) v0_ r ∧ Below w.heap.size w w' := by
 have HR0 := Aside0.mk hr0
 have HC0 := Aside0.mk hc0
 clear hr0 hc0
 have HB := Aside0.mk (Below.refl w.heap.size w)
 have H : (if ([] : List Int).length + l0.length < 140737488355328 then (some (([] : List Int) ++ l0)) else (none)) = some r := h
 clear h
 by_cases c2 : ([] : List Int).length + l0.length < 140737488355328
 · rw [if_pos c2] at H
   have LMc2 := Aside0.mk c2
   clear c2
   obtain ⟨y179, hy179⟩ : ∃ y_ : List Int, y_ = (([] : List Int) ++ l0) := ⟨_, rfl⟩
   replace H : (some y179) = some r := by first | (rw [hy179]; with_reducible exact H) | (have H2_ := (Option.bind_some _ _).symm.trans H; rw [hy179]; with_reducible exact H2_) | (have H2_ := (Option.bind_some _ _).symm.trans H; with_reducible exact H2_) | with_reducible exact H | (rw [hy179]; exact H) | exact H
   have Ny179 := Aside0.mk hy179
   clear hy179
   obtain rfl := Option.some.inj H
   simp only [Option.some.injEq, Prod.mk.injEq] at H
   obtain ⟨rfl⟩ := H
   go_enter Try.func61, Try.ntmps61
   go_wp2_with (first | ((with_reducible refine gate_builtin (b := .append) (xs := #[.tmp 4, .tmp 5]) rfl ?_); at_builtin; refine Kd.R_append_rows (Kd.int .u8) (w0 := w) w.heap.size rfl (.tmp 4) (.tmp 5) 22 5 (.int .u8 0) 1 rfl Try.underlying22 info5 rfl (by decide) (by omega) (.slice none 0 0) ([] : List Int) l0 _ _ _ (fun _ => True) (fun _ => False) rfl rfl ?aO ?aR (fun _ _ h => h) (fun _ h => h.elim) ?aF ?aB ?aS ?aL ?_; (case aR => repeat (first | exact HR0.out | (with_reducible refine Kd.C_alloc ?_ _) | (with_reducible refine Kd.C_drewN ?_ _) | (with_reducible refine Kd.C_drew ?_))); (case aB => exact (by repeat (first | (with_reducible first | exact HB.out | apply below_alloc | apply pw_below_drewN | apply below_drew1) | exact HB.out))); (case aF => exact (fun _ _ => trivial)); (case aO => exact ((Kd.R_nil _ _ _ _ (fun _ => True)))); (case aS => exact (below_size (by repeat (first | (with_reducible first | exact HB.out | apply below_alloc | apply pw_below_drewN | apply below_drew1) | exact HB.out)))); (case aL => have := LMc2.out; omega); intro v180 w3 ho hb hg hat; rw [← Ny179.out] at ho; have n0_ := Aside0.mk (hb); have n1_ := Aside0.mk (ho); clear HB; have HB := n0_; have HO181 := n1_; clear n0_ n1_; clear ho hb hg hat))
   go_ret
   exact ⟨_, by first | rfl | (simp [errW_none, errW_some] <;> rfl) | (simp [*, errW_none, errW_some] <;> rfl), by (with_reducible repeat (first | apply Kd.R_alloc | apply Kd.R_drewN | apply Kd.R_drew)); exact HO181.out, by repeat (first | (with_reducible first | exact HB.out | apply below_alloc | apply pw_below_drewN | apply below_drew1) | exact HB.out)⟩
 · rw [if_neg c2] at H
   exact absurd H (by simp)
end Go.Proofs.Ytkddlhcpplkpbaa.G
end
