/- MessageBackUpto: texts of this claim, packed: what the kit's print has written for it and own texts, without what its proof does not reach. -/
import Derived.Test.YtkddlhcpplkpbaaKMessageBackUpto16
import Derived.Test.YtkddlhcpplkpbaaKMessageBackUpto18
import Derived.Test.YtkddlhcpplkpbaaKMessageBackUpto25
import Derived.Test.YtkddlhcpplkpbaaKMessageBackUpto26
set_option linter.unusedVariables false
set_option linter.unusedSimpArgs false
set_option linter.unusedSectionVars false
section
namespace Go.Proofs.Ytkddlhcpplkpbaa.G
open WB Go.RowKit Go.Proofs.YtkddlhcpplkpbaaW.PrintWords Go.Proofs.YtkddlhcpplkpbaaW.PrintLast Go.Proofs.YtkddlhcpplkpbaaW.PrintMore
attribute [local go_sem] max2_int min2_int max_two min_two max_three min_three max_four min_four   -- for this text's walks alone
set_option linter.unusedVariables false
set_option linter.unusedSimpArgs false
def waybillplain_SameMsg.f (a0_0 : Int) (a0_1 : Int) (a0_2 : Int) (a0_3 : Int) (a0_4 : Int) (a0_5 : Int) (a0_6 : Int) (a0_7 : Int) (a0_8 : Int) (a0_9 : Int) (a0_10 : Int) (l0_11 : List Int) (a1_0 : Int) (a1_1 : Int) (a1_2 : Int) (a1_3 : Int) (a1_4 : Int) (a1_5 : Int) (a1_6 : Int) (a1_7 : Int) (a1_8 : Int) (a1_9 : Int) (a1_10 : Int) (l1_11 : List Int) : Option (Bool) := (waybillplain_SameBytes.f l0_11 l1_11).bind fun b => some (b && (a0_0 == a1_0) && (a0_1 == a1_1) && (a0_2 == a1_2) && (a0_3 == a1_3) && (a0_4 == a1_4) && (a0_5 == a1_5) && (a0_6 == a1_6) && (a0_7 == a1_7) && (a0_8 == a1_8) && (a0_9 == a1_9) && (a0_10 == a1_10))
set_option maxHeartbeats 8000000 in
set_option maxRecDepth 100000 in
theorem waybillplain_SameMsg.calls (a0_0 : Int) (a0_1 : Int) (a0_2 : Int) (a0_3 : Int) (a0_4 : Int) (a0_5 : Int) (a0_6 : Int) (a0_7 : Int) (a0_8 : Int) (a0_9 : Int) (a0_10 : Int) (A0_11 : Option Addr) (c0_11 : Nat) (l0_11 : List Int) (a1_0 : Int) (a1_1 : Int) (a1_2 : Int) (a1_3 : Int) (a1_4 : Int) (a1_5 : Int) (a1_6 : Int) (a1_7 : Int) (a1_8 : Int) (a1_9 : Int) (a1_10 : Int) (A1_11 : Option Addr) (c1_11 : Nat) (l1_11 : List Int) (r : Bool) (w : World) (hr0_11 : Kd.C (Kd.int .u8) w A0_11 l0_11.length l0_11) (hc0_11 : l0_11.length ≤ c0_11) (hr1_11 : Kd.C (Kd.int .u8) w A1_11 l1_11.length l1_11) (hc1_11 : l1_11.length ≤ c1_11) (h : waybillplain_SameMsg.f a0_0 a0_1 a0_2 a0_3 a0_4 a0_5 a0_6 a0_7 a0_8 a0_9 a0_10 l0_11 a1_0 a1_1 a1_2 a1_3 a1_4 a1_5 a1_6 a1_7 a1_8 a1_9 a1_10 l1_11 = some r) :
    Calls Try.prog 12 #[.agg #[.int .i64 a0_0, .int .i64 a0_1, .int .i64 a0_2, .int .i64 a0_3, .int .i64 a0_4, .int .i64 a0_5, .int .i64 a0_6, .int .i64 a0_7, .int .i64 a0_8, .int .i64 a0_9, .int .i64 a0_10, .slice A0_11 l0_11.length c0_11], .agg #[.int .i64 a1_0, .int .i64 a1_1, .int .i64 a1_2, .int .i64 a1_3, .int .i64 a1_4, .int .i64 a1_5, .int .i64 a1_6, .int .i64 a1_7, .int .i64 a1_8, .int .i64 a1_9, .int .i64 a1_10, .slice A1_11 l1_11.length c1_11]] w fun e w' => e = .returned (.bool r) ∧ Below w.heap.size w w' := by
  unfold waybillplain_SameMsg.f at h
  obtain ⟨b, hb, h⟩ := Option.bind_eq_some_iff.1 h
  have HB := Aside0.mk hb
  have HR0 := Aside0.mk hr0_11
  have HC0 := Aside0.mk hc0_11
  have HR1 := Aside0.mk hr1_11
  have HC1 := Aside0.mk hc1_11
  clear hr0_11 hc0_11 hr1_11 hc1_11 hb
  obtain ⟨b0, hb0⟩ : ∃ b, (a0_0 == a1_0) = b := ⟨_, rfl⟩
  obtain ⟨b1, hb1⟩ : ∃ b, (a0_1 == a1_1) = b := ⟨_, rfl⟩
  obtain ⟨b2, hb2⟩ : ∃ b, (a0_2 == a1_2) = b := ⟨_, rfl⟩
  obtain ⟨b3, hb3⟩ : ∃ b, (a0_3 == a1_3) = b := ⟨_, rfl⟩
  obtain ⟨b4, hb4⟩ : ∃ b, (a0_4 == a1_4) = b := ⟨_, rfl⟩
  obtain ⟨b5, hb5⟩ : ∃ b, (a0_5 == a1_5) = b := ⟨_, rfl⟩
  obtain ⟨b6, hb6⟩ : ∃ b, (a0_6 == a1_6) = b := ⟨_, rfl⟩
  obtain ⟨b7, hb7⟩ : ∃ b, (a0_7 == a1_7) = b := ⟨_, rfl⟩
  obtain ⟨b8, hb8⟩ : ∃ b, (a0_8 == a1_8) = b := ⟨_, rfl⟩
  obtain ⟨b9, hb9⟩ : ∃ b, (a0_9 == a1_9) = b := ⟨_, rfl⟩
  obtain ⟨b10, hb10⟩ : ∃ b, (a0_10 == a1_10) = b := ⟨_, rfl⟩
  rw [hb0, hb1, hb2, hb3, hb4, hb5, hb6, hb7, hb8, hb9, hb10] at h
  obtain rfl := Option.some.inj h
  clear h
  obtain ⟨W0, hW0⟩ : ∃ W, W = (w.alloc (.cells #[.int .i64 a0_0, .int .i64 a0_1, .int .i64 a0_2, .int .i64 a0_3, .int .i64 a0_4, .int .i64 a0_5, .int .i64 a0_6, .int .i64 a0_7, .int .i64 a0_8, .int .i64 a0_9, .int .i64 a0_10, .slice A0_11 l0_11.length c0_11] 25)).alloc (.cells #[.int .i64 a1_0, .int .i64 a1_1, .int .i64 a1_2, .int .i64 a1_3, .int .i64 a1_4, .int .i64 a1_5, .int .i64 a1_6, .int .i64 a1_7, .int .i64 a1_8, .int .i64 a1_9, .int .i64 a1_10, .slice A1_11 l1_11.length c1_11] 25) := ⟨_, rfl⟩
  have BA := Aside0.mk (show W0.heap[w.heap.size]? = some (.cells #[.int .i64 a0_0, .int .i64 a0_1, .int .i64 a0_2, .int .i64 a0_3, .int .i64 a0_4, .int .i64 a0_5, .int .i64 a0_6, .int .i64 a0_7, .int .i64 a0_8, .int .i64 a0_9, .int .i64 a0_10, .slice A0_11 l0_11.length c0_11] 25 (0, 0)) by rw [hW0]; exact blk_alloc (heap_new1 _ _) _)
  have BB := Aside0.mk (show W0.heap[w.heap.size + 1]? = some (.cells #[.int .i64 a1_0, .int .i64 a1_1, .int .i64 a1_2, .int .i64 a1_3, .int .i64 a1_4, .int .i64 a1_5, .int .i64 a1_6, .int .i64 a1_7, .int .i64 a1_8, .int .i64 a1_9, .int .i64 a1_10, .slice A1_11 l1_11.length c1_11] 25 (0, 0)) by rw [hW0]; exact heap_new2 _ _ _)
  have HBW := Aside0.mk (show Below w.heap.size w W0 by rw [hW0]; exact below_alloc (below_alloc (Below.refl _ _) _) _)
  have G0 := Aside0.mk (Kd.C_below HR0.out HBW.out)
  have G1 := Aside0.mk (Kd.C_below HR1.out HBW.out)
  have HW := Aside0.mk hW0
  clear hW0
  go_enter Try.func12, Try.ntmps12
  go_upto_region 1 with fail
  rw [← HW.out]
  clear HW
  have q11 : W0.cell? ⟨w.heap.size, 11, none⟩ = some (.slice A0_11 l0_11.length c0_11) := (blk_cell BA.out 11).trans rfl
  have r11 : W0.cell? ⟨w.heap.size + 1, 11, none⟩ = some (.slice A1_11 l1_11.length c1_11) := (blk_cell BB.out 11).trans rfl
  go_wp2_with fail
  go_quiet (fail)
  go_upto_region 2 with fail
  obtain ⟨W1, hW1⟩ : ∃ W, W = W0.drewN nq := ⟨_, rfl⟩
  rw [← hW1]
  replace BA := Aside0.mk (show W1.heap[w.heap.size]? = some (.cells #[.int .i64 a0_0, .int .i64 a0_1, .int .i64 a0_2, .int .i64 a0_3, .int .i64 a0_4, .int .i64 a0_5, .int .i64 a0_6, .int .i64 a0_7, .int .i64 a0_8, .int .i64 a0_9, .int .i64 a0_10, .slice A0_11 l0_11.length c0_11] 25 (0, 0)) by rw [hW1]; exact BA.out)
  replace BB := Aside0.mk (show W1.heap[w.heap.size + 1]? = some (.cells #[.int .i64 a1_0, .int .i64 a1_1, .int .i64 a1_2, .int .i64 a1_3, .int .i64 a1_4, .int .i64 a1_5, .int .i64 a1_6, .int .i64 a1_7, .int .i64 a1_8, .int .i64 a1_9, .int .i64 a1_10, .slice A1_11 l1_11.length c1_11] 25 (0, 0)) by rw [hW1]; exact BB.out)
  replace HBW := Aside0.mk (show Below w.heap.size w W1 by rw [hW1]; exact pw_below_drewN HBW.out nq)
  replace G0 := Aside0.mk (Kd.C_below HR0.out HBW.out)
  replace G1 := Aside0.mk (Kd.C_below HR1.out HBW.out)
  clear q11 r11 hW1
  have q0 : W1.cell? ⟨w.heap.size, 0, none⟩ = some (.int .i64 a0_0) := (blk_cell BA.out 0).trans rfl
  have r0 : W1.cell? ⟨w.heap.size + 1, 0, none⟩ = some (.int .i64 a1_0) := (blk_cell BB.out 0).trans rfl
  have q1 : W1.cell? ⟨w.heap.size, 1, none⟩ = some (.int .i64 a0_1) := (blk_cell BA.out 1).trans rfl
  have r1 : W1.cell? ⟨w.heap.size + 1, 1, none⟩ = some (.int .i64 a1_1) := (blk_cell BB.out 1).trans rfl
  have q2 : W1.cell? ⟨w.heap.size, 2, none⟩ = some (.int .i64 a0_2) := (blk_cell BA.out 2).trans rfl
  have r2 : W1.cell? ⟨w.heap.size + 1, 2, none⟩ = some (.int .i64 a1_2) := (blk_cell BB.out 2).trans rfl
  have q3 : W1.cell? ⟨w.heap.size, 3, none⟩ = some (.int .i64 a0_3) := (blk_cell BA.out 3).trans rfl
  have r3 : W1.cell? ⟨w.heap.size + 1, 3, none⟩ = some (.int .i64 a1_3) := (blk_cell BB.out 3).trans rfl
  have q4 : W1.cell? ⟨w.heap.size, 4, none⟩ = some (.int .i64 a0_4) := (blk_cell BA.out 4).trans rfl
  have r4 : W1.cell? ⟨w.heap.size + 1, 4, none⟩ = some (.int .i64 a1_4) := (blk_cell BB.out 4).trans rfl
  have q5 : W1.cell? ⟨w.heap.size, 5, none⟩ = some (.int .i64 a0_5) := (blk_cell BA.out 5).trans rfl
  have r5 : W1.cell? ⟨w.heap.size + 1, 5, none⟩ = some (.int .i64 a1_5) := (blk_cell BB.out 5).trans rfl
  have q6 : W1.cell? ⟨w.heap.size, 6, none⟩ = some (.int .i64 a0_6) := (blk_cell BA.out 6).trans rfl
  have r6 : W1.cell? ⟨w.heap.size + 1, 6, none⟩ = some (.int .i64 a1_6) := (blk_cell BB.out 6).trans rfl
  have q7 : W1.cell? ⟨w.heap.size, 7, none⟩ = some (.int .i64 a0_7) := (blk_cell BA.out 7).trans rfl
  have r7 : W1.cell? ⟨w.heap.size + 1, 7, none⟩ = some (.int .i64 a1_7) := (blk_cell BB.out 7).trans rfl
  have q8 : W1.cell? ⟨w.heap.size, 8, none⟩ = some (.int .i64 a0_8) := (blk_cell BA.out 8).trans rfl
  have r8 : W1.cell? ⟨w.heap.size + 1, 8, none⟩ = some (.int .i64 a1_8) := (blk_cell BB.out 8).trans rfl
  have q9 : W1.cell? ⟨w.heap.size, 9, none⟩ = some (.int .i64 a0_9) := (blk_cell BA.out 9).trans rfl
  have r9 : W1.cell? ⟨w.heap.size + 1, 9, none⟩ = some (.int .i64 a1_9) := (blk_cell BB.out 9).trans rfl
  have q10 : W1.cell? ⟨w.heap.size, 10, none⟩ = some (.int .i64 a0_10) := (blk_cell BA.out 10).trans rfl
  have r10 : W1.cell? ⟨w.heap.size + 1, 10, none⟩ = some (.int .i64 a1_10) := (blk_cell BB.out 10).trans rfl
  have q11 : W1.cell? ⟨w.heap.size, 11, none⟩ = some (.slice A0_11 l0_11.length c0_11) := (blk_cell BA.out 11).trans rfl
  have r11 : W1.cell? ⟨w.heap.size + 1, 11, none⟩ = some (.slice A1_11 l1_11.length c1_11) := (blk_cell BB.out 11).trans rfl
  refine wp_region_list ?_
  refine list_facts (B := _) (w0 := _) 0 [(11, (fun v _ => v = .slice A0_11 l0_11.length c0_11)), (12, (fun v _ => v = .slice A1_11 l1_11.length c1_11)), (13, (fun v W => v = .bool b)), (14, (fun v _ => v = .bool (b))), (15, (fun v _ => v = if (b) = true then .pointer (some ⟨w.heap.size, 0, none⟩) else undef)), (16, (fun v _ => v = if (b) = true then .int .i64 a0_0 else undef)), (17, (fun v _ => v = if (b) = true then .pointer (some ⟨w.heap.size + 1, 0, none⟩) else undef)), (18, (fun v _ => v = if (b) = true then .int .i64 a1_0 else undef)), (19, (fun v _ => v = if (b) = true then .bool (b0) else undef)), (20, (fun v _ => v = .bool (b && b0))), (21, (fun v _ => v = .bool (b && b0))), (22, (fun v _ => v = if (b && b0) = true then .pointer (some ⟨w.heap.size, 1, none⟩) else undef)), (23, (fun v _ => v = if (b && b0) = true then .int .i64 a0_1 else undef)), (24, (fun v _ => v = if (b && b0) = true then .pointer (some ⟨w.heap.size + 1, 1, none⟩) else undef)), (25, (fun v _ => v = if (b && b0) = true then .int .i64 a1_1 else undef)), (26, (fun v _ => v = if (b && b0) = true then .bool (b1) else undef)), (27, (fun v _ => v = .bool (b && b0 && b1))), (28, (fun v _ => v = .bool (b && b0 && b1))), (29, (fun v _ => v = if (b && b0 && b1) = true then .pointer (some ⟨w.heap.size, 2, none⟩) else undef)), (30, (fun v _ => v = if (b && b0 && b1) = true then .int .i64 a0_2 else undef)), (31, (fun v _ => v = if (b && b0 && b1) = true then .pointer (some ⟨w.heap.size + 1, 2, none⟩) else undef)), (32, (fun v _ => v = if (b && b0 && b1) = true then .int .i64 a1_2 else undef)), (33, (fun v _ => v = if (b && b0 && b1) = true then .bool (b2) else undef)), (34, (fun v _ => v = .bool (b && b0 && b1 && b2))), (35, (fun v _ => v = .bool (b && b0 && b1 && b2))), (36, (fun v _ => v = if (b && b0 && b1 && b2) = true then .pointer (some ⟨w.heap.size, 3, none⟩) else undef)), (37, (fun v _ => v = if (b && b0 && b1 && b2) = true then .int .i64 a0_3 else undef)), (38, (fun v _ => v = if (b && b0 && b1 && b2) = true then .pointer (some ⟨w.heap.size + 1, 3, none⟩) else undef)), (39, (fun v _ => v = if (b && b0 && b1 && b2) = true then .int .i64 a1_3 else undef)), (40, (fun v _ => v = if (b && b0 && b1 && b2) = true then .bool (b3) else undef)), (41, (fun v _ => v = .bool (b && b0 && b1 && b2 && b3))), (42, (fun v _ => v = .bool (b && b0 && b1 && b2 && b3))), (43, (fun v _ => v = if (b && b0 && b1 && b2 && b3) = true then .pointer (some ⟨w.heap.size, 4, none⟩) else undef)), (44, (fun v _ => v = if (b && b0 && b1 && b2 && b3) = true then .int .i64 a0_4 else undef)), (45, (fun v _ => v = if (b && b0 && b1 && b2 && b3) = true then .pointer (some ⟨w.heap.size + 1, 4, none⟩) else undef)), (46, (fun v _ => v = if (b && b0 && b1 && b2 && b3) = true then .int .i64 a1_4 else undef)), (47, (fun v _ => v = if (b && b0 && b1 && b2 && b3) = true then .bool (b4) else undef)), (48, (fun v _ => v = .bool (b && b0 && b1 && b2 && b3 && b4))), (49, (fun v _ => v = .bool (b && b0 && b1 && b2 && b3 && b4))), (50, (fun v _ => v = if (b && b0 && b1 && b2 && b3 && b4) = true then .pointer (some ⟨w.heap.size, 5, none⟩) else undef)), (51, (fun v _ => v = if (b && b0 && b1 && b2 && b3 && b4) = true then .int .i64 a0_5 else undef)), (52, (fun v _ => v = if (b && b0 && b1 && b2 && b3 && b4) = true then .pointer (some ⟨w.heap.size + 1, 5, none⟩) else undef)), (53, (fun v _ => v = if (b && b0 && b1 && b2 && b3 && b4) = true then .int .i64 a1_5 else undef)), (54, (fun v _ => v = if (b && b0 && b1 && b2 && b3 && b4) = true then .bool (b5) else undef)), (55, (fun v _ => v = .bool (b && b0 && b1 && b2 && b3 && b4 && b5))), (56, (fun v _ => v = .bool (b && b0 && b1 && b2 && b3 && b4 && b5))), (57, (fun v _ => v = if (b && b0 && b1 && b2 && b3 && b4 && b5) = true then .pointer (some ⟨w.heap.size, 6, none⟩) else undef)), (58, (fun v _ => v = if (b && b0 && b1 && b2 && b3 && b4 && b5) = true then .int .i64 a0_6 else undef)), (59, (fun v _ => v = if (b && b0 && b1 && b2 && b3 && b4 && b5) = true then .pointer (some ⟨w.heap.size + 1, 6, none⟩) else undef)), (60, (fun v _ => v = if (b && b0 && b1 && b2 && b3 && b4 && b5) = true then .int .i64 a1_6 else undef)), (61, (fun v _ => v = if (b && b0 && b1 && b2 && b3 && b4 && b5) = true then .bool (b6) else undef)), (62, (fun v _ => v = .bool (b && b0 && b1 && b2 && b3 && b4 && b5 && b6))), (63, (fun v _ => v = .bool (b && b0 && b1 && b2 && b3 && b4 && b5 && b6))), (64, (fun v _ => v = if (b && b0 && b1 && b2 && b3 && b4 && b5 && b6) = true then .pointer (some ⟨w.heap.size, 7, none⟩) else undef)), (65, (fun v _ => v = if (b && b0 && b1 && b2 && b3 && b4 && b5 && b6) = true then .int .i64 a0_7 else undef)), (66, (fun v _ => v = if (b && b0 && b1 && b2 && b3 && b4 && b5 && b6) = true then .pointer (some ⟨w.heap.size + 1, 7, none⟩) else undef)), (67, (fun v _ => v = if (b && b0 && b1 && b2 && b3 && b4 && b5 && b6) = true then .int .i64 a1_7 else undef)), (68, (fun v _ => v = if (b && b0 && b1 && b2 && b3 && b4 && b5 && b6) = true then .bool (b7) else undef)), (69, (fun v _ => v = .bool (b && b0 && b1 && b2 && b3 && b4 && b5 && b6 && b7))), (70, (fun v _ => v = .bool (b && b0 && b1 && b2 && b3 && b4 && b5 && b6 && b7))), (71, (fun v _ => v = if (b && b0 && b1 && b2 && b3 && b4 && b5 && b6 && b7) = true then .pointer (some ⟨w.heap.size, 8, none⟩) else undef)), (72, (fun v _ => v = if (b && b0 && b1 && b2 && b3 && b4 && b5 && b6 && b7) = true then .int .i64 a0_8 else undef)), (73, (fun v _ => v = if (b && b0 && b1 && b2 && b3 && b4 && b5 && b6 && b7) = true then .pointer (some ⟨w.heap.size + 1, 8, none⟩) else undef)), (74, (fun v _ => v = if (b && b0 && b1 && b2 && b3 && b4 && b5 && b6 && b7) = true then .int .i64 a1_8 else undef)), (75, (fun v _ => v = if (b && b0 && b1 && b2 && b3 && b4 && b5 && b6 && b7) = true then .bool (b8) else undef)), (76, (fun v _ => v = .bool (b && b0 && b1 && b2 && b3 && b4 && b5 && b6 && b7 && b8))), (77, (fun v _ => v = .bool (b && b0 && b1 && b2 && b3 && b4 && b5 && b6 && b7 && b8))), (78, (fun v _ => v = if (b && b0 && b1 && b2 && b3 && b4 && b5 && b6 && b7 && b8) = true then .pointer (some ⟨w.heap.size, 9, none⟩) else undef)), (79, (fun v _ => v = if (b && b0 && b1 && b2 && b3 && b4 && b5 && b6 && b7 && b8) = true then .int .i64 a0_9 else undef)), (80, (fun v _ => v = if (b && b0 && b1 && b2 && b3 && b4 && b5 && b6 && b7 && b8) = true then .pointer (some ⟨w.heap.size + 1, 9, none⟩) else undef)), (81, (fun v _ => v = if (b && b0 && b1 && b2 && b3 && b4 && b5 && b6 && b7 && b8) = true then .int .i64 a1_9 else undef)), (82, (fun v _ => v = if (b && b0 && b1 && b2 && b3 && b4 && b5 && b6 && b7 && b8) = true then .bool (b9) else undef)), (83, (fun v _ => v = .bool (b && b0 && b1 && b2 && b3 && b4 && b5 && b6 && b7 && b8 && b9))), (84, (fun v _ => v = .bool (b && b0 && b1 && b2 && b3 && b4 && b5 && b6 && b7 && b8 && b9))), (85, (fun v _ => v = if (b && b0 && b1 && b2 && b3 && b4 && b5 && b6 && b7 && b8 && b9) = true then .pointer (some ⟨w.heap.size, 10, none⟩) else undef)), (86, (fun v _ => v = if (b && b0 && b1 && b2 && b3 && b4 && b5 && b6 && b7 && b8 && b9) = true then .int .i64 a0_10 else undef)), (87, (fun v _ => v = if (b && b0 && b1 && b2 && b3 && b4 && b5 && b6 && b7 && b8 && b9) = true then .pointer (some ⟨w.heap.size + 1, 10, none⟩) else undef)), (88, (fun v _ => v = if (b && b0 && b1 && b2 && b3 && b4 && b5 && b6 && b7 && b8 && b9) = true then .int .i64 a1_10 else undef)), (89, (fun v _ => v = if (b && b0 && b1 && b2 && b3 && b4 && b5 && b6 && b7 && b8 && b9) = true then .bool (b10) else undef)), (90, (fun v _ => v = .bool (b && b0 && b1 && b2 && b3 && b4 && b5 && b6 && b7 && b8 && b9 && b10))), (4, (fun v _ => v = .bool (b && b0 && b1 && b2 && b3 && b4 && b5 && b6 && b7 && b8 && b9 && b10)))] (by kernel_rfl) (by rfl) (show ([11, 12, 13, 14, 15, 16, 17, 18, 19, 20, 21, 22, 23, 24, 25, 26, 27, 28, 29, 30, 31, 32, 33, 34, 35, 36, 37, 38, 39, 40, 41, 42, 43, 44, 45, 46, 47, 48, 49, 50, 51, 52, 53, 54, 55, 56, 57, 58, 59, 60, 61, 62, 63, 64, 65, 66, 67, 68, 69, 70, 71, 72, 73, 74, 75, 76, 77, 78, 79, 80, 81, 82, 83, 84, 85, 86, 87, 88, 89, 90, 4] : List Nat).Nodup by decide) ?hsz ?hst (Below.refl _ _) (Nat.le_refl _) ?step ?fin
  case hsz => exact List.forall_mem_cons.2 ⟨(show 11 < 91 by decide), List.forall_mem_cons.2 ⟨(show 12 < 91 by decide), List.forall_mem_cons.2 ⟨(show 13 < 91 by decide), List.forall_mem_cons.2 ⟨(show 14 < 91 by decide), List.forall_mem_cons.2 ⟨(show 15 < 91 by decide), List.forall_mem_cons.2 ⟨(show 16 < 91 by decide), List.forall_mem_cons.2 ⟨(show 17 < 91 by decide), List.forall_mem_cons.2 ⟨(show 18 < 91 by decide), List.forall_mem_cons.2 ⟨(show 19 < 91 by decide), List.forall_mem_cons.2 ⟨(show 20 < 91 by decide), List.forall_mem_cons.2 ⟨(show 21 < 91 by decide), List.forall_mem_cons.2 ⟨(show 22 < 91 by decide), List.forall_mem_cons.2 ⟨(show 23 < 91 by decide), List.forall_mem_cons.2 ⟨(show 24 < 91 by decide), List.forall_mem_cons.2 ⟨(show 25 < 91 by decide), List.forall_mem_cons.2 ⟨(show 26 < 91 by decide), List.forall_mem_cons.2 ⟨(show 27 < 91 by decide), List.forall_mem_cons.2 ⟨(show 28 < 91 by decide), List.forall_mem_cons.2 ⟨(show 29 < 91 by decide), List.forall_mem_cons.2 ⟨(show 30 < 91 by decide), List.forall_mem_cons.2 ⟨(show 31 < 91 by decide), List.forall_mem_cons.2 ⟨(show 32 < 91 by decide), List.forall_mem_cons.2 ⟨(show 33 < 91 by decide), List.forall_mem_cons.2 ⟨(show 34 < 91 by decide), List.forall_mem_cons.2 ⟨(show 35 < 91 by decide), List.forall_mem_cons.2 ⟨(show 36 < 91 by decide), List.forall_mem_cons.2 ⟨(show 37 < 91 by decide), List.forall_mem_cons.2 ⟨(show 38 < 91 by decide), List.forall_mem_cons.2 ⟨(show 39 < 91 by decide), List.forall_mem_cons.2 ⟨(show 40 < 91 by decide), List.forall_mem_cons.2 ⟨(show 41 < 91 by decide), List.forall_mem_cons.2 ⟨(show 42 < 91 by decide), List.forall_mem_cons.2 ⟨(show 43 < 91 by decide), List.forall_mem_cons.2 ⟨(show 44 < 91 by decide), List.forall_mem_cons.2 ⟨(show 45 < 91 by decide), List.forall_mem_cons.2 ⟨(show 46 < 91 by decide), List.forall_mem_cons.2 ⟨(show 47 < 91 by decide), List.forall_mem_cons.2 ⟨(show 48 < 91 by decide), List.forall_mem_cons.2 ⟨(show 49 < 91 by decide), List.forall_mem_cons.2 ⟨(show 50 < 91 by decide), List.forall_mem_cons.2 ⟨(show 51 < 91 by decide), List.forall_mem_cons.2 ⟨(show 52 < 91 by decide), List.forall_mem_cons.2 ⟨(show 53 < 91 by decide), List.forall_mem_cons.2 ⟨(show 54 < 91 by decide), List.forall_mem_cons.2 ⟨(show 55 < 91 by decide), List.forall_mem_cons.2 ⟨(show 56 < 91 by decide), List.forall_mem_cons.2 ⟨(show 57 < 91 by decide), List.forall_mem_cons.2 ⟨(show 58 < 91 by decide), List.forall_mem_cons.2 ⟨(show 59 < 91 by decide), List.forall_mem_cons.2 ⟨(show 60 < 91 by decide), List.forall_mem_cons.2 ⟨(show 61 < 91 by decide), List.forall_mem_cons.2 ⟨(show 62 < 91 by decide), List.forall_mem_cons.2 ⟨(show 63 < 91 by decide), List.forall_mem_cons.2 ⟨(show 64 < 91 by decide), List.forall_mem_cons.2 ⟨(show 65 < 91 by decide), List.forall_mem_cons.2 ⟨(show 66 < 91 by decide), List.forall_mem_cons.2 ⟨(show 67 < 91 by decide), List.forall_mem_cons.2 ⟨(show 68 < 91 by decide), List.forall_mem_cons.2 ⟨(show 69 < 91 by decide), List.forall_mem_cons.2 ⟨(show 70 < 91 by decide), List.forall_mem_cons.2 ⟨(show 71 < 91 by decide), List.forall_mem_cons.2 ⟨(show 72 < 91 by decide), List.forall_mem_cons.2 ⟨(show 73 < 91 by decide), List.forall_mem_cons.2 ⟨(show 74 < 91 by decide), List.forall_mem_cons.2 ⟨(show 75 < 91 by decide), List.forall_mem_cons.2 ⟨(show 76 < 91 by decide), List.forall_mem_cons.2 ⟨(show 77 < 91 by decide), List.forall_mem_cons.2 ⟨(show 78 < 91 by decide), List.forall_mem_cons.2 ⟨(show 79 < 91 by decide), List.forall_mem_cons.2 ⟨(show 80 < 91 by decide), List.forall_mem_cons.2 ⟨(show 81 < 91 by decide), List.forall_mem_cons.2 ⟨(show 82 < 91 by decide), List.forall_mem_cons.2 ⟨(show 83 < 91 by decide), List.forall_mem_cons.2 ⟨(show 84 < 91 by decide), List.forall_mem_cons.2 ⟨(show 85 < 91 by decide), List.forall_mem_cons.2 ⟨(show 86 < 91 by decide), List.forall_mem_cons.2 ⟨(show 87 < 91 by decide), List.forall_mem_cons.2 ⟨(show 88 < 91 by decide), List.forall_mem_cons.2 ⟨(show 89 < 91 by decide), List.forall_mem_cons.2 ⟨(show 90 < 91 by decide), List.forall_mem_cons.2 ⟨(show 4 < 91 by decide), fun _ h => nomatch h⟩⟩⟩⟩⟩⟩⟩⟩⟩⟩⟩⟩⟩⟩⟩⟩⟩⟩⟩⟩⟩⟩⟩⟩⟩⟩⟩⟩⟩⟩⟩⟩⟩⟩⟩⟩⟩⟩⟩⟩⟩⟩⟩⟩⟩⟩⟩⟩⟩⟩⟩⟩⟩⟩⟩⟩⟩⟩⟩⟩⟩⟩⟩⟩⟩⟩⟩⟩⟩⟩⟩⟩⟩⟩⟩⟩⟩⟩⟩⟩⟩
  case hst => exact List.forall_mem_cons.2 ⟨(fun v w1 w2 hb h => h), List.forall_mem_cons.2 ⟨(fun v w1 w2 hb h => h), List.forall_mem_cons.2 ⟨(fun v w1 w2 hb h => h), List.forall_mem_cons.2 ⟨(fun v w1 w2 hb h => h), List.forall_mem_cons.2 ⟨(fun v w1 w2 hb h => h), List.forall_mem_cons.2 ⟨(fun v w1 w2 hb h => h), List.forall_mem_cons.2 ⟨(fun v w1 w2 hb h => h), List.forall_mem_cons.2 ⟨(fun v w1 w2 hb h => h), List.forall_mem_cons.2 ⟨(fun v w1 w2 hb h => h), List.forall_mem_cons.2 ⟨(fun v w1 w2 hb h => h), List.forall_mem_cons.2 ⟨(fun v w1 w2 hb h => h), List.forall_mem_cons.2 ⟨(fun v w1 w2 hb h => h), List.forall_mem_cons.2 ⟨(fun v w1 w2 hb h => h), List.forall_mem_cons.2 ⟨(fun v w1 w2 hb h => h), List.forall_mem_cons.2 ⟨(fun v w1 w2 hb h => h), List.forall_mem_cons.2 ⟨(fun v w1 w2 hb h => h), List.forall_mem_cons.2 ⟨(fun v w1 w2 hb h => h), List.forall_mem_cons.2 ⟨(fun v w1 w2 hb h => h), List.forall_mem_cons.2 ⟨(fun v w1 w2 hb h => h), List.forall_mem_cons.2 ⟨(fun v w1 w2 hb h => h), List.forall_mem_cons.2 ⟨(fun v w1 w2 hb h => h), List.forall_mem_cons.2 ⟨(fun v w1 w2 hb h => h), List.forall_mem_cons.2 ⟨(fun v w1 w2 hb h => h), List.forall_mem_cons.2 ⟨(fun v w1 w2 hb h => h), List.forall_mem_cons.2 ⟨(fun v w1 w2 hb h => h), List.forall_mem_cons.2 ⟨(fun v w1 w2 hb h => h), List.forall_mem_cons.2 ⟨(fun v w1 w2 hb h => h), List.forall_mem_cons.2 ⟨(fun v w1 w2 hb h => h), List.forall_mem_cons.2 ⟨(fun v w1 w2 hb h => h), List.forall_mem_cons.2 ⟨(fun v w1 w2 hb h => h), List.forall_mem_cons.2 ⟨(fun v w1 w2 hb h => h), List.forall_mem_cons.2 ⟨(fun v w1 w2 hb h => h), List.forall_mem_cons.2 ⟨(fun v w1 w2 hb h => h), List.forall_mem_cons.2 ⟨(fun v w1 w2 hb h => h), List.forall_mem_cons.2 ⟨(fun v w1 w2 hb h => h), List.forall_mem_cons.2 ⟨(fun v w1 w2 hb h => h), List.forall_mem_cons.2 ⟨(fun v w1 w2 hb h => h), List.forall_mem_cons.2 ⟨(fun v w1 w2 hb h => h), List.forall_mem_cons.2 ⟨(fun v w1 w2 hb h => h), List.forall_mem_cons.2 ⟨(fun v w1 w2 hb h => h), List.forall_mem_cons.2 ⟨(fun v w1 w2 hb h => h), List.forall_mem_cons.2 ⟨(fun v w1 w2 hb h => h), List.forall_mem_cons.2 ⟨(fun v w1 w2 hb h => h), List.forall_mem_cons.2 ⟨(fun v w1 w2 hb h => h), List.forall_mem_cons.2 ⟨(fun v w1 w2 hb h => h), List.forall_mem_cons.2 ⟨(fun v w1 w2 hb h => h), List.forall_mem_cons.2 ⟨(fun v w1 w2 hb h => h), List.forall_mem_cons.2 ⟨(fun v w1 w2 hb h => h), List.forall_mem_cons.2 ⟨(fun v w1 w2 hb h => h), List.forall_mem_cons.2 ⟨(fun v w1 w2 hb h => h), List.forall_mem_cons.2 ⟨(fun v w1 w2 hb h => h), List.forall_mem_cons.2 ⟨(fun v w1 w2 hb h => h), List.forall_mem_cons.2 ⟨(fun v w1 w2 hb h => h), List.forall_mem_cons.2 ⟨(fun v w1 w2 hb h => h), List.forall_mem_cons.2 ⟨(fun v w1 w2 hb h => h), List.forall_mem_cons.2 ⟨(fun v w1 w2 hb h => h), List.forall_mem_cons.2 ⟨(fun v w1 w2 hb h => h), List.forall_mem_cons.2 ⟨(fun v w1 w2 hb h => h), List.forall_mem_cons.2 ⟨(fun v w1 w2 hb h => h), List.forall_mem_cons.2 ⟨(fun v w1 w2 hb h => h), List.forall_mem_cons.2 ⟨(fun v w1 w2 hb h => h), List.forall_mem_cons.2 ⟨(fun v w1 w2 hb h => h), List.forall_mem_cons.2 ⟨(fun v w1 w2 hb h => h), List.forall_mem_cons.2 ⟨(fun v w1 w2 hb h => h), List.forall_mem_cons.2 ⟨(fun v w1 w2 hb h => h), List.forall_mem_cons.2 ⟨(fun v w1 w2 hb h => h), List.forall_mem_cons.2 ⟨(fun v w1 w2 hb h => h), List.forall_mem_cons.2 ⟨(fun v w1 w2 hb h => h), List.forall_mem_cons.2 ⟨(fun v w1 w2 hb h => h), List.forall_mem_cons.2 ⟨(fun v w1 w2 hb h => h), List.forall_mem_cons.2 ⟨(fun v w1 w2 hb h => h), List.forall_mem_cons.2 ⟨(fun v w1 w2 hb h => h), List.forall_mem_cons.2 ⟨(fun v w1 w2 hb h => h), List.forall_mem_cons.2 ⟨(fun v w1 w2 hb h => h), List.forall_mem_cons.2 ⟨(fun v w1 w2 hb h => h), List.forall_mem_cons.2 ⟨(fun v w1 w2 hb h => h), List.forall_mem_cons.2 ⟨(fun v w1 w2 hb h => h), List.forall_mem_cons.2 ⟨(fun v w1 w2 hb h => h), List.forall_mem_cons.2 ⟨(fun v w1 w2 hb h => h), List.forall_mem_cons.2 ⟨(fun v w1 w2 hb h => h), List.forall_mem_cons.2 ⟨(fun v w1 w2 hb h => h), fun _ h => nomatch h⟩⟩⟩⟩⟩⟩⟩⟩⟩⟩⟩⟩⟩⟩⟩⟩⟩⟩⟩⟩⟩⟩⟩⟩⟩⟩⟩⟩⟩⟩⟩⟩⟩⟩⟩⟩⟩⟩⟩⟩⟩⟩⟩⟩⟩⟩⟩⟩⟩⟩⟩⟩⟩⟩⟩⟩⟩⟩⟩⟩⟩⟩⟩⟩⟩⟩⟩⟩⟩⟩⟩⟩⟩⟩⟩⟩⟩⟩⟩⟩⟩
  case step =>
    intro i_ o_ e_ ho he a w1_ hs hdf hfr hbl hbs hpre
    match i_, ho, he with
    | 0, ho, he => obtain rfl : o_ = ⟨_, _, _, _, _, _⟩ := (Option.some.inj ho).symm; obtain rfl := Option.some.inj he; clear he; have f5 : a.tmps.getD 5 undef = .slice A0_11 l0_11.length c0_11 := (by rw [Array.getD_eq_getD_getElem?, hfr 5 (show ¬ 5 ∈ ([11, 12, 13, 14, 15, 16, 17, 18, 19, 20, 21, 22, 23, 24, 25, 26, 27, 28, 29, 30, 31, 32, 33, 34, 35, 36, 37, 38, 39, 40, 41, 42, 43, 44, 45, 46, 47, 48, 49, 50, 51, 52, 53, 54, 55, 56, 57, 58, 59, 60, 61, 62, 63, 64, 65, 66, 67, 68, 69, 70, 71, 72, 73, 74, 75, 76, 77, 78, 79, 80, 81, 82, 83, 84, 85, 86, 87, 88, 89, 90, 4] : List Nat) by decide)]; rfl); clear hpre hfr; refine wpOp_value (v := .slice A0_11 l0_11.length c0_11) ho rfl ?_ ⟨_, rfl, rfl, Below.refl _ _⟩; simp only [execOp, Act.eval, List.map_toArray, List.map_cons, List.map_nil, f5]; first | rfl | (go_simp; done) | (go_simp; rfl) | (go_simp; intro h_; exfalso; omega)
    | 1, ho, he => obtain rfl : o_ = ⟨_, _, _, _, _, _⟩ := (Option.some.inj ho).symm; obtain rfl := Option.some.inj he; clear he; have f6 : a.tmps.getD 6 undef = .slice A1_11 l1_11.length c1_11 := (by rw [Array.getD_eq_getD_getElem?, hfr 6 (show ¬ 6 ∈ ([11, 12, 13, 14, 15, 16, 17, 18, 19, 20, 21, 22, 23, 24, 25, 26, 27, 28, 29, 30, 31, 32, 33, 34, 35, 36, 37, 38, 39, 40, 41, 42, 43, 44, 45, 46, 47, 48, 49, 50, 51, 52, 53, 54, 55, 56, 57, 58, 59, 60, 61, 62, 63, 64, 65, 66, 67, 68, 69, 70, 71, 72, 73, 74, 75, 76, 77, 78, 79, 80, 81, 82, 83, 84, 85, 86, 87, 88, 89, 90, 4] : List Nat) by decide)]; rfl); clear hpre hfr; refine wpOp_value (v := .slice A1_11 l1_11.length c1_11) ho rfl ?_ ⟨_, rfl, rfl, Below.refl _ _⟩; simp only [execOp, Act.eval, List.map_toArray, List.map_cons, List.map_nil, f6]; first | rfl | (go_simp; done) | (go_simp; rfl) | (go_simp; intro h_; exfalso; omega)
    | 2, ho, he => obtain rfl : o_ = ⟨_, _, _, _, _, _⟩ := (Option.some.inj ho).symm; obtain rfl := Option.some.inj he; clear he; have e11 : a.tmps.getD 11 undef = .slice A0_11 l0_11.length c0_11 := hpre ⟨0, .data⟩ (by simp) rfl (by decide) _ rfl; have e12 : a.tmps.getD 12 undef = .slice A1_11 l1_11.length c1_11 := hpre ⟨1, .data⟩ (by simp) rfl (by decide) _ rfl; clear hpre hfr; refine wpOp_call (fn := Try.f14) ho rfl rfl rfl rfl #[.slice A0_11 l0_11.length c0_11, .slice A1_11 l1_11.length c1_11] rfl (by simp only [List.map_toArray, List.map_cons, List.map_nil, Act.eval, e11, e12]) ?_; refine (waybillplain_SameBytes.calls A0_11 c0_11 l0_11 A1_11 c1_11 l1_11 b w1_ (Kd.C_below G0.out hbl) HC0.out (Kd.C_below G1.out hbl) HC1.out HB.out).mono ?_; rintro e w2 ⟨rfl, hd⟩; exact ⟨_, rfl, ⟨_, rfl, rfl, hd.below⟩⟩
    | 3, ho, he => obtain rfl : o_ = ⟨_, _, _, _, _, _⟩ := (Option.some.inj ho).symm; obtain rfl := Option.some.inj he; clear he; have e13 := hpre ⟨2, .data⟩ (by simp) rfl (by decide) _ rfl; dsimp only at e13; clear hpre hfr; refine wpOp_value (v := .bool (b)) ho rfl ?_ ⟨_, rfl, rfl, Below.refl _ _⟩; simp only [execOp, Act.eval, List.map_toArray, List.map_cons, List.map_nil]; first | rfl | (go_simp; done) | (go_simp; rfl) | (go_simp; intro h_; exfalso; omega)
    | 4, ho, he =>
      obtain rfl : o_ = ⟨_, _, _, _, _, _⟩ := (Option.some.inj ho).symm
      obtain rfl := Option.some.inj he; clear he
      have e14 : a.tmps.getD 14 undef = .bool (b) := hpre ⟨3, .guard⟩ (by simp) rfl (by decide) _ rfl
      have f2 : a.tmps.getD 2 undef = .pointer (some ⟨w.heap.size, 0, none⟩) := by rw [Array.getD_eq_getD_getElem?, hfr 2 (show ¬ 2 ∈ ([11, 12, 13, 14, 15, 16, 17, 18, 19, 20, 21, 22, 23, 24, 25, 26, 27, 28, 29, 30, 31, 32, 33, 34, 35, 36, 37, 38, 39, 40, 41, 42, 43, 44, 45, 46, 47, 48, 49, 50, 51, 52, 53, 54, 55, 56, 57, 58, 59, 60, 61, 62, 63, 64, 65, 66, 67, 68, 69, 70, 71, 72, 73, 74, 75, 76, 77, 78, 79, 80, 81, 82, 83, 84, 85, 86, 87, 88, 89, 90, 4] : List Nat) by decide)]; rfl
      clear hpre hfr
      by_cases hq_ : (b) = true
      · refine wpOp_value_w (v := .pointer (some ⟨w.heap.size, 0, none⟩)) ho (wanted_of (n := 3) (d := 14) rfl rfl (by rw [hs]; exact (show 14 < 91 by decide)) (e14.trans (congrArg _ hq_))) ?_ ⟨_, by rw [if_pos hq_], rfl, Below.refl _ _⟩
        simp only [execOp, Act.eval, List.map_toArray, List.map_cons, List.map_nil, e14, f2]
        first | rfl | (go_simp; done) | (go_simp; rfl) | (go_simp; intro h_; exfalso; omega)
      · exact wpOp_unwanted ho (unwanted_if (n := 3) (d := 14) rfl rfl e14 hq_) ⟨_, by rw [if_neg hq_], rfl, Below.refl _ _⟩
    | 5, ho, he =>
      obtain rfl : o_ = ⟨_, _, _, _, _, _⟩ := (Option.some.inj ho).symm
      obtain rfl := Option.some.inj he; clear he
      have e15 : a.tmps.getD 15 undef = if (b) = true then .pointer (some ⟨w.heap.size, 0, none⟩) else undef := hpre ⟨4, .data⟩ (by simp) rfl (by decide) _ rfl
      have e14 : a.tmps.getD 14 undef = .bool (b) := hpre ⟨3, .guard⟩ (by simp) rfl (by decide) _ rfl
      clear hpre hfr
      have k_q0 := (hbl.cell (World.block_lt_of_cell? _ _ q0)).trans q0
      by_cases hq_ : (b) = true
      · rw [if_pos hq_] at e15
        refine wpOp_value_w (v := .int .i64 a0_0) ho (wanted_of (n := 3) (d := 14) rfl rfl (by rw [hs]; exact (show 14 < 91 by decide)) (e14.trans (congrArg _ hq_))) ?_ ⟨_, by rw [if_pos hq_], rfl, Below.refl _ _⟩
        simp only [execOp, Act.eval, List.map_toArray, List.map_cons, List.map_nil, e15, e14]
        first | rfl | (go_simp; done) | (go_simp; rfl) | (go_simp; intro h_; exfalso; omega)
      · exact wpOp_unwanted ho (unwanted_if (n := 3) (d := 14) rfl rfl e14 hq_) ⟨_, by rw [if_neg hq_], rfl, Below.refl _ _⟩
    | 6, ho, he =>
      obtain rfl : o_ = ⟨_, _, _, _, _, _⟩ := (Option.some.inj ho).symm
      obtain rfl := Option.some.inj he; clear he
      have e14 : a.tmps.getD 14 undef = .bool (b) := hpre ⟨3, .guard⟩ (by simp) rfl (by decide) _ rfl
      have f3 : a.tmps.getD 3 undef = .pointer (some ⟨w.heap.size + 1, 0, none⟩) := by rw [Array.getD_eq_getD_getElem?, hfr 3 (show ¬ 3 ∈ ([11, 12, 13, 14, 15, 16, 17, 18, 19, 20, 21, 22, 23, 24, 25, 26, 27, 28, 29, 30, 31, 32, 33, 34, 35, 36, 37, 38, 39, 40, 41, 42, 43, 44, 45, 46, 47, 48, 49, 50, 51, 52, 53, 54, 55, 56, 57, 58, 59, 60, 61, 62, 63, 64, 65, 66, 67, 68, 69, 70, 71, 72, 73, 74, 75, 76, 77, 78, 79, 80, 81, 82, 83, 84, 85, 86, 87, 88, 89, 90, 4] : List Nat) by decide)]; rfl
      clear hpre hfr
      by_cases hq_ : (b) = true
      · refine wpOp_value_w (v := .pointer (some ⟨w.heap.size + 1, 0, none⟩)) ho (wanted_of (n := 3) (d := 14) rfl rfl (by rw [hs]; exact (show 14 < 91 by decide)) (e14.trans (congrArg _ hq_))) ?_ ⟨_, by rw [if_pos hq_], rfl, Below.refl _ _⟩
        simp only [execOp, Act.eval, List.map_toArray, List.map_cons, List.map_nil, e14, f3]
        first | rfl | (go_simp; done) | (go_simp; rfl) | (go_simp; intro h_; exfalso; omega)
      · exact wpOp_unwanted ho (unwanted_if (n := 3) (d := 14) rfl rfl e14 hq_) ⟨_, by rw [if_neg hq_], rfl, Below.refl _ _⟩
    | 7, ho, he =>
      obtain rfl : o_ = ⟨_, _, _, _, _, _⟩ := (Option.some.inj ho).symm
      obtain rfl := Option.some.inj he; clear he
      have e17 : a.tmps.getD 17 undef = if (b) = true then .pointer (some ⟨w.heap.size + 1, 0, none⟩) else undef := hpre ⟨6, .data⟩ (by simp) rfl (by decide) _ rfl
      have e14 : a.tmps.getD 14 undef = .bool (b) := hpre ⟨3, .guard⟩ (by simp) rfl (by decide) _ rfl
      clear hpre hfr
      have k_r0 := (hbl.cell (World.block_lt_of_cell? _ _ r0)).trans r0
      by_cases hq_ : (b) = true
      · rw [if_pos hq_] at e17
        refine wpOp_value_w (v := .int .i64 a1_0) ho (wanted_of (n := 3) (d := 14) rfl rfl (by rw [hs]; exact (show 14 < 91 by decide)) (e14.trans (congrArg _ hq_))) ?_ ⟨_, by rw [if_pos hq_], rfl, Below.refl _ _⟩
        simp only [execOp, Act.eval, List.map_toArray, List.map_cons, List.map_nil, e17, e14]
        first | rfl | (go_simp; done) | (go_simp; rfl) | (go_simp; intro h_; exfalso; omega)
      · exact wpOp_unwanted ho (unwanted_if (n := 3) (d := 14) rfl rfl e14 hq_) ⟨_, by rw [if_neg hq_], rfl, Below.refl _ _⟩
    | 8, ho, he =>
      obtain rfl : o_ = ⟨_, _, _, _, _, _⟩ := (Option.some.inj ho).symm
      obtain rfl := Option.some.inj he; clear he
      have e16 : a.tmps.getD 16 undef = if (b) = true then .int .i64 a0_0 else undef := hpre ⟨5, .data⟩ (by simp) rfl (by decide) _ rfl
      have e18 : a.tmps.getD 18 undef = if (b) = true then .int .i64 a1_0 else undef := hpre ⟨7, .data⟩ (by simp) rfl (by decide) _ rfl
      have e14 : a.tmps.getD 14 undef = .bool (b) := hpre ⟨3, .guard⟩ (by simp) rfl (by decide) _ rfl
      clear hpre hfr
      by_cases hq_ : (b) = true
      · rw [if_pos hq_] at e16
        rw [if_pos hq_] at e18
        refine wpOp_value_w (v := .bool (b0)) ho (wanted_of (n := 3) (d := 14) rfl rfl (by rw [hs]; exact (show 14 < 91 by decide)) (e14.trans (congrArg _ hq_))) ?_ ⟨_, by rw [if_pos hq_], rfl, Below.refl _ _⟩
        simp only [execOp, Act.eval, List.map_toArray, List.map_cons, List.map_nil, e16, e18, e14]
        first | rfl | (go_simp; done) | (go_simp; rfl) | (go_simp; intro h_; exfalso; omega)
      · exact wpOp_unwanted ho (unwanted_if (n := 3) (d := 14) rfl rfl e14 hq_) ⟨_, by rw [if_neg hq_], rfl, Below.refl _ _⟩
    | 9, ho, he =>
      obtain rfl : o_ = ⟨_, _, _, _, _, _⟩ := (Option.some.inj ho).symm
      obtain rfl := Option.some.inj he; clear he
      have e14 : a.tmps.getD 14 undef = .bool (b) := hpre ⟨3, .data⟩ (by simp) rfl (by decide) _ rfl
      have e19 : a.tmps.getD 19 undef = if (b) = true then .bool (b0) else undef := hpre ⟨8, .data⟩ (by simp) rfl (by decide) _ rfl
      clear hpre hfr
      by_cases hq_ : (b) = true
      · rw [if_pos hq_] at e19
        refine wpOp_value (v := .bool (b && b0)) ho rfl ?_ ⟨_, rfl, rfl, Below.refl _ _⟩
        simp only [execOp, Act.eval, List.map_toArray, List.map_cons, List.map_nil, hq_, e14, e19]
        first | rfl | (go_simp; done) | (go_simp; rfl) | (simp [hq_]; done)
      · rw [if_neg hq_] at e19
        replace hq_ : (b) = false := Bool.of_not_eq_true hq_
        refine wpOp_value (v := .bool (b && b0)) ho rfl ?_ ⟨_, rfl, rfl, Below.refl _ _⟩
        simp only [execOp, Act.eval, List.map_toArray, List.map_cons, List.map_nil, hq_, e14, e19]
        first | rfl | (go_simp; done) | (go_simp; rfl) | (simp [hq_]; done)
    | 10, ho, he => obtain rfl : o_ = ⟨_, _, _, _, _, _⟩ := (Option.some.inj ho).symm; obtain rfl := Option.some.inj he; clear he; have e20 : a.tmps.getD 20 undef = .bool (b && b0) := hpre ⟨9, .data⟩ (by simp) rfl (by decide) _ rfl; clear hpre hfr; refine wpOp_value (v := .bool (b && b0)) ho rfl ?_ ⟨_, rfl, rfl, Below.refl _ _⟩; simp only [execOp, Act.eval, List.map_toArray, List.map_cons, List.map_nil, e20]; first | rfl | (go_simp; done) | (go_simp; rfl) | (go_simp; intro h_; exfalso; omega)
    | 11, ho, he =>
      obtain rfl : o_ = ⟨_, _, _, _, _, _⟩ := (Option.some.inj ho).symm
      obtain rfl := Option.some.inj he; clear he
      have e21 : a.tmps.getD 21 undef = .bool (b && b0) := hpre ⟨10, .guard⟩ (by simp) rfl (by decide) _ rfl
      have f2 : a.tmps.getD 2 undef = .pointer (some ⟨w.heap.size, 0, none⟩) := by rw [Array.getD_eq_getD_getElem?, hfr 2 (show ¬ 2 ∈ ([11, 12, 13, 14, 15, 16, 17, 18, 19, 20, 21, 22, 23, 24, 25, 26, 27, 28, 29, 30, 31, 32, 33, 34, 35, 36, 37, 38, 39, 40, 41, 42, 43, 44, 45, 46, 47, 48, 49, 50, 51, 52, 53, 54, 55, 56, 57, 58, 59, 60, 61, 62, 63, 64, 65, 66, 67, 68, 69, 70, 71, 72, 73, 74, 75, 76, 77, 78, 79, 80, 81, 82, 83, 84, 85, 86, 87, 88, 89, 90, 4] : List Nat) by decide)]; rfl
      clear hpre hfr
      by_cases hq_ : (b && b0) = true
      · refine wpOp_value_w (v := .pointer (some ⟨w.heap.size, 1, none⟩)) ho (wanted_of (n := 10) (d := 21) rfl rfl (by rw [hs]; exact (show 21 < 91 by decide)) (e21.trans (congrArg _ hq_))) ?_ ⟨_, by rw [if_pos hq_], rfl, Below.refl _ _⟩
        simp only [execOp, Act.eval, List.map_toArray, List.map_cons, List.map_nil, e21, f2]
        first | rfl | (go_simp; done) | (go_simp; rfl) | (go_simp; intro h_; exfalso; omega)
      · exact wpOp_unwanted ho (unwanted_if (n := 10) (d := 21) rfl rfl e21 hq_) ⟨_, by rw [if_neg hq_], rfl, Below.refl _ _⟩
    | 12, ho, he =>
      obtain rfl : o_ = ⟨_, _, _, _, _, _⟩ := (Option.some.inj ho).symm
      obtain rfl := Option.some.inj he; clear he
      have e22 : a.tmps.getD 22 undef = if (b && b0) = true then .pointer (some ⟨w.heap.size, 1, none⟩) else undef := hpre ⟨11, .data⟩ (by simp) rfl (by decide) _ rfl
      have e21 : a.tmps.getD 21 undef = .bool (b && b0) := hpre ⟨10, .guard⟩ (by simp) rfl (by decide) _ rfl
      clear hpre hfr
      have k_q1 := (hbl.cell (World.block_lt_of_cell? _ _ q1)).trans q1
      by_cases hq_ : (b && b0) = true
      · rw [if_pos hq_] at e22
        refine wpOp_value_w (v := .int .i64 a0_1) ho (wanted_of (n := 10) (d := 21) rfl rfl (by rw [hs]; exact (show 21 < 91 by decide)) (e21.trans (congrArg _ hq_))) ?_ ⟨_, by rw [if_pos hq_], rfl, Below.refl _ _⟩
        simp only [execOp, Act.eval, List.map_toArray, List.map_cons, List.map_nil, e22, e21]
        first | rfl | (go_simp; done) | (go_simp; rfl) | (go_simp; intro h_; exfalso; omega)
      · exact wpOp_unwanted ho (unwanted_if (n := 10) (d := 21) rfl rfl e21 hq_) ⟨_, by rw [if_neg hq_], rfl, Below.refl _ _⟩
    | 13, ho, he =>
      obtain rfl : o_ = ⟨_, _, _, _, _, _⟩ := (Option.some.inj ho).symm
      obtain rfl := Option.some.inj he; clear he
      have e21 : a.tmps.getD 21 undef = .bool (b && b0) := hpre ⟨10, .guard⟩ (by simp) rfl (by decide) _ rfl
      have f3 : a.tmps.getD 3 undef = .pointer (some ⟨w.heap.size + 1, 0, none⟩) := by rw [Array.getD_eq_getD_getElem?, hfr 3 (show ¬ 3 ∈ ([11, 12, 13, 14, 15, 16, 17, 18, 19, 20, 21, 22, 23, 24, 25, 26, 27, 28, 29, 30, 31, 32, 33, 34, 35, 36, 37, 38, 39, 40, 41, 42, 43, 44, 45, 46, 47, 48, 49, 50, 51, 52, 53, 54, 55, 56, 57, 58, 59, 60, 61, 62, 63, 64, 65, 66, 67, 68, 69, 70, 71, 72, 73, 74, 75, 76, 77, 78, 79, 80, 81, 82, 83, 84, 85, 86, 87, 88, 89, 90, 4] : List Nat) by decide)]; rfl
      clear hpre hfr
      by_cases hq_ : (b && b0) = true
      · refine wpOp_value_w (v := .pointer (some ⟨w.heap.size + 1, 1, none⟩)) ho (wanted_of (n := 10) (d := 21) rfl rfl (by rw [hs]; exact (show 21 < 91 by decide)) (e21.trans (congrArg _ hq_))) ?_ ⟨_, by rw [if_pos hq_], rfl, Below.refl _ _⟩
        simp only [execOp, Act.eval, List.map_toArray, List.map_cons, List.map_nil, e21, f3]
        first | rfl | (go_simp; done) | (go_simp; rfl) | (go_simp; intro h_; exfalso; omega)
      · exact wpOp_unwanted ho (unwanted_if (n := 10) (d := 21) rfl rfl e21 hq_) ⟨_, by rw [if_neg hq_], rfl, Below.refl _ _⟩
    | 14, ho, he =>
      obtain rfl : o_ = ⟨_, _, _, _, _, _⟩ := (Option.some.inj ho).symm
      obtain rfl := Option.some.inj he; clear he
      have e24 : a.tmps.getD 24 undef = if (b && b0) = true then .pointer (some ⟨w.heap.size + 1, 1, none⟩) else undef := hpre ⟨13, .data⟩ (by simp) rfl (by decide) _ rfl
      have e21 : a.tmps.getD 21 undef = .bool (b && b0) := hpre ⟨10, .guard⟩ (by simp) rfl (by decide) _ rfl
      clear hpre hfr
      have k_r1 := (hbl.cell (World.block_lt_of_cell? _ _ r1)).trans r1
      by_cases hq_ : (b && b0) = true
      · rw [if_pos hq_] at e24
        refine wpOp_value_w (v := .int .i64 a1_1) ho (wanted_of (n := 10) (d := 21) rfl rfl (by rw [hs]; exact (show 21 < 91 by decide)) (e21.trans (congrArg _ hq_))) ?_ ⟨_, by rw [if_pos hq_], rfl, Below.refl _ _⟩
        simp only [execOp, Act.eval, List.map_toArray, List.map_cons, List.map_nil, e24, e21]
        first | rfl | (go_simp; done) | (go_simp; rfl) | (go_simp; intro h_; exfalso; omega)
      · exact wpOp_unwanted ho (unwanted_if (n := 10) (d := 21) rfl rfl e21 hq_) ⟨_, by rw [if_neg hq_], rfl, Below.refl _ _⟩
    | 15, ho, he =>
      obtain rfl : o_ = ⟨_, _, _, _, _, _⟩ := (Option.some.inj ho).symm
      obtain rfl := Option.some.inj he; clear he
      have e23 : a.tmps.getD 23 undef = if (b && b0) = true then .int .i64 a0_1 else undef := hpre ⟨12, .data⟩ (by simp) rfl (by decide) _ rfl
      have e25 : a.tmps.getD 25 undef = if (b && b0) = true then .int .i64 a1_1 else undef := hpre ⟨14, .data⟩ (by simp) rfl (by decide) _ rfl
      have e21 : a.tmps.getD 21 undef = .bool (b && b0) := hpre ⟨10, .guard⟩ (by simp) rfl (by decide) _ rfl
      clear hpre hfr
      by_cases hq_ : (b && b0) = true
      · rw [if_pos hq_] at e23
        rw [if_pos hq_] at e25
        refine wpOp_value_w (v := .bool (b1)) ho (wanted_of (n := 10) (d := 21) rfl rfl (by rw [hs]; exact (show 21 < 91 by decide)) (e21.trans (congrArg _ hq_))) ?_ ⟨_, by rw [if_pos hq_], rfl, Below.refl _ _⟩
        simp only [execOp, Act.eval, List.map_toArray, List.map_cons, List.map_nil, e23, e25, e21]
        first | rfl | (go_simp; done) | (go_simp; rfl) | (go_simp; intro h_; exfalso; omega)
      · exact wpOp_unwanted ho (unwanted_if (n := 10) (d := 21) rfl rfl e21 hq_) ⟨_, by rw [if_neg hq_], rfl, Below.refl _ _⟩
    | 16, ho, he =>
      obtain rfl : o_ = ⟨_, _, _, _, _, _⟩ := (Option.some.inj ho).symm
      obtain rfl := Option.some.inj he; clear he
      have e21 : a.tmps.getD 21 undef = .bool (b && b0) := hpre ⟨10, .data⟩ (by simp) rfl (by decide) _ rfl
      have e26 : a.tmps.getD 26 undef = if (b && b0) = true then .bool (b1) else undef := hpre ⟨15, .data⟩ (by simp) rfl (by decide) _ rfl
      clear hpre hfr
      by_cases hq_ : (b && b0) = true
      · rw [if_pos hq_] at e26
        refine wpOp_value (v := .bool (b && b0 && b1)) ho rfl ?_ ⟨_, rfl, rfl, Below.refl _ _⟩
        simp only [execOp, Act.eval, List.map_toArray, List.map_cons, List.map_nil, hq_, e21, e26]
        first | rfl | (go_simp; done) | (go_simp; rfl) | (simp [hq_]; done)
      · rw [if_neg hq_] at e26
        replace hq_ : (b && b0) = false := Bool.of_not_eq_true hq_
        refine wpOp_value (v := .bool (b && b0 && b1)) ho rfl ?_ ⟨_, rfl, rfl, Below.refl _ _⟩
        simp only [execOp, Act.eval, List.map_toArray, List.map_cons, List.map_nil, hq_, e21, e26]
        first | rfl | (go_simp; done) | (go_simp; rfl) | (simp [hq_]; done)
    | 17, ho, he => obtain rfl : o_ = ⟨_, _, _, _, _, _⟩ := (Option.some.inj ho).symm; obtain rfl := Option.some.inj he; clear he; have e27 : a.tmps.getD 27 undef = .bool (b && b0 && b1) := hpre ⟨16, .data⟩ (by simp) rfl (by decide) _ rfl; clear hpre hfr; refine wpOp_value (v := .bool (b && b0 && b1)) ho rfl ?_ ⟨_, rfl, rfl, Below.refl _ _⟩; simp only [execOp, Act.eval, List.map_toArray, List.map_cons, List.map_nil, e27]; first | rfl | (go_simp; done) | (go_simp; rfl) | (go_simp; intro h_; exfalso; omega)
    | 18, ho, he =>
      obtain rfl : o_ = ⟨_, _, _, _, _, _⟩ := (Option.some.inj ho).symm
      obtain rfl := Option.some.inj he; clear he
      have e28 : a.tmps.getD 28 undef = .bool (b && b0 && b1) := hpre ⟨17, .guard⟩ (by simp) rfl (by decide) _ rfl
      have f2 : a.tmps.getD 2 undef = .pointer (some ⟨w.heap.size, 0, none⟩) := by rw [Array.getD_eq_getD_getElem?, hfr 2 (show ¬ 2 ∈ ([11, 12, 13, 14, 15, 16, 17, 18, 19, 20, 21, 22, 23, 24, 25, 26, 27, 28, 29, 30, 31, 32, 33, 34, 35, 36, 37, 38, 39, 40, 41, 42, 43, 44, 45, 46, 47, 48, 49, 50, 51, 52, 53, 54, 55, 56, 57, 58, 59, 60, 61, 62, 63, 64, 65, 66, 67, 68, 69, 70, 71, 72, 73, 74, 75, 76, 77, 78, 79, 80, 81, 82, 83, 84, 85, 86, 87, 88, 89, 90, 4] : List Nat) by decide)]; rfl
      clear hpre hfr
      by_cases hq_ : (b && b0 && b1) = true
      · refine wpOp_value_w (v := .pointer (some ⟨w.heap.size, 2, none⟩)) ho (wanted_of (n := 17) (d := 28) rfl rfl (by rw [hs]; exact (show 28 < 91 by decide)) (e28.trans (congrArg _ hq_))) ?_ ⟨_, by rw [if_pos hq_], rfl, Below.refl _ _⟩
        simp only [execOp, Act.eval, List.map_toArray, List.map_cons, List.map_nil, e28, f2]
        first | rfl | (go_simp; done) | (go_simp; rfl) | (go_simp; intro h_; exfalso; omega)
      · exact wpOp_unwanted ho (unwanted_if (n := 17) (d := 28) rfl rfl e28 hq_) ⟨_, by rw [if_neg hq_], rfl, Below.refl _ _⟩
    | 19, ho, he =>
      obtain rfl : o_ = ⟨_, _, _, _, _, _⟩ := (Option.some.inj ho).symm
      obtain rfl := Option.some.inj he; clear he
      have e29 : a.tmps.getD 29 undef = if (b && b0 && b1) = true then .pointer (some ⟨w.heap.size, 2, none⟩) else undef := hpre ⟨18, .data⟩ (by simp) rfl (by decide) _ rfl
      have e28 : a.tmps.getD 28 undef = .bool (b && b0 && b1) := hpre ⟨17, .guard⟩ (by simp) rfl (by decide) _ rfl
      clear hpre hfr
      have k_q2 := (hbl.cell (World.block_lt_of_cell? _ _ q2)).trans q2
      by_cases hq_ : (b && b0 && b1) = true
      · rw [if_pos hq_] at e29
        refine wpOp_value_w (v := .int .i64 a0_2) ho (wanted_of (n := 17) (d := 28) rfl rfl (by rw [hs]; exact (show 28 < 91 by decide)) (e28.trans (congrArg _ hq_))) ?_ ⟨_, by rw [if_pos hq_], rfl, Below.refl _ _⟩
        simp only [execOp, Act.eval, List.map_toArray, List.map_cons, List.map_nil, e29, e28]
        first | rfl | (go_simp; done) | (go_simp; rfl) | (go_simp; intro h_; exfalso; omega)
      · exact wpOp_unwanted ho (unwanted_if (n := 17) (d := 28) rfl rfl e28 hq_) ⟨_, by rw [if_neg hq_], rfl, Below.refl _ _⟩
    | 20, ho, he =>
      obtain rfl : o_ = ⟨_, _, _, _, _, _⟩ := (Option.some.inj ho).symm
      obtain rfl := Option.some.inj he; clear he
      have e28 : a.tmps.getD 28 undef = .bool (b && b0 && b1) := hpre ⟨17, .guard⟩ (by simp) rfl (by decide) _ rfl
      have f3 : a.tmps.getD 3 undef = .pointer (some ⟨w.heap.size + 1, 0, none⟩) := by rw [Array.getD_eq_getD_getElem?, hfr 3 (show ¬ 3 ∈ ([11, 12, 13, 14, 15, 16, 17, 18, 19, 20, 21, 22, 23, 24, 25, 26, 27, 28, 29, 30, 31, 32, 33, 34, 35, 36, 37, 38, 39, 40, 41, 42, 43, 44, 45, 46, 47, 48, 49, 50, 51, 52, 53, 54, 55, 56, 57, 58, 59, 60, 61, 62, 63, 64, 65, 66, 67, 68, 69, 70, 71, 72, 73, 74, 75, 76, 77, 78, 79, 80, 81, 82, 83, 84, 85, 86, 87, 88, 89, 90, 4] : List Nat) by decide)]; rfl
      clear hpre hfr
      by_cases hq_ : (b && b0 && b1) = true
      · refine wpOp_value_w (v := .pointer (some ⟨w.heap.size + 1, 2, none⟩)) ho (wanted_of (n := 17) (d := 28) rfl rfl (by rw [hs]; exact (show 28 < 91 by decide)) (e28.trans (congrArg _ hq_))) ?_ ⟨_, by rw [if_pos hq_], rfl, Below.refl _ _⟩
        simp only [execOp, Act.eval, List.map_toArray, List.map_cons, List.map_nil, e28, f3]
        first | rfl | (go_simp; done) | (go_simp; rfl) | (go_simp; intro h_; exfalso; omega)
      · exact wpOp_unwanted ho (unwanted_if (n := 17) (d := 28) rfl rfl e28 hq_) ⟨_, by rw [if_neg hq_], rfl, Below.refl _ _⟩
    | 21, ho, he =>
      obtain rfl : o_ = ⟨_, _, _, _, _, _⟩ := (Option.some.inj ho).symm
      obtain rfl := Option.some.inj he; clear he
      have e31 : a.tmps.getD 31 undef = if (b && b0 && b1) = true then .pointer (some ⟨w.heap.size + 1, 2, none⟩) else undef := hpre ⟨20, .data⟩ (by simp) rfl (by decide) _ rfl
      have e28 : a.tmps.getD 28 undef = .bool (b && b0 && b1) := hpre ⟨17, .guard⟩ (by simp) rfl (by decide) _ rfl
      clear hpre hfr
      have k_r2 := (hbl.cell (World.block_lt_of_cell? _ _ r2)).trans r2
      by_cases hq_ : (b && b0 && b1) = true
      · rw [if_pos hq_] at e31
        refine wpOp_value_w (v := .int .i64 a1_2) ho (wanted_of (n := 17) (d := 28) rfl rfl (by rw [hs]; exact (show 28 < 91 by decide)) (e28.trans (congrArg _ hq_))) ?_ ⟨_, by rw [if_pos hq_], rfl, Below.refl _ _⟩
        simp only [execOp, Act.eval, List.map_toArray, List.map_cons, List.map_nil, e31, e28]
        first | rfl | (go_simp; done) | (go_simp; rfl) | (go_simp; intro h_; exfalso; omega)
      · exact wpOp_unwanted ho (unwanted_if (n := 17) (d := 28) rfl rfl e28 hq_) ⟨_, by rw [if_neg hq_], rfl, Below.refl _ _⟩
    | 22, ho, he =>
      obtain rfl : o_ = ⟨_, _, _, _, _, _⟩ := (Option.some.inj ho).symm
      obtain rfl := Option.some.inj he; clear he
      have e30 : a.tmps.getD 30 undef = if (b && b0 && b1) = true then .int .i64 a0_2 else undef := hpre ⟨19, .data⟩ (by simp) rfl (by decide) _ rfl
      have e32 : a.tmps.getD 32 undef = if (b && b0 && b1) = true then .int .i64 a1_2 else undef := hpre ⟨21, .data⟩ (by simp) rfl (by decide) _ rfl
      have e28 : a.tmps.getD 28 undef = .bool (b && b0 && b1) := hpre ⟨17, .guard⟩ (by simp) rfl (by decide) _ rfl
      clear hpre hfr
      by_cases hq_ : (b && b0 && b1) = true
      · rw [if_pos hq_] at e30
        rw [if_pos hq_] at e32
        refine wpOp_value_w (v := .bool (b2)) ho (wanted_of (n := 17) (d := 28) rfl rfl (by rw [hs]; exact (show 28 < 91 by decide)) (e28.trans (congrArg _ hq_))) ?_ ⟨_, by rw [if_pos hq_], rfl, Below.refl _ _⟩
        simp only [execOp, Act.eval, List.map_toArray, List.map_cons, List.map_nil, e30, e32, e28]
        first | rfl | (go_simp; done) | (go_simp; rfl) | (go_simp; intro h_; exfalso; omega)
      · exact wpOp_unwanted ho (unwanted_if (n := 17) (d := 28) rfl rfl e28 hq_) ⟨_, by rw [if_neg hq_], rfl, Below.refl _ _⟩
    | 23, ho, he =>
      obtain rfl : o_ = ⟨_, _, _, _, _, _⟩ := (Option.some.inj ho).symm
      obtain rfl := Option.some.inj he; clear he
      have e28 : a.tmps.getD 28 undef = .bool (b && b0 && b1) := hpre ⟨17, .data⟩ (by simp) rfl (by decide) _ rfl
      have e33 : a.tmps.getD 33 undef = if (b && b0 && b1) = true then .bool (b2) else undef := hpre ⟨22, .data⟩ (by simp) rfl (by decide) _ rfl
      clear hpre hfr
      by_cases hq_ : (b && b0 && b1) = true
      · rw [if_pos hq_] at e33
        refine wpOp_value (v := .bool (b && b0 && b1 && b2)) ho rfl ?_ ⟨_, rfl, rfl, Below.refl _ _⟩
        simp only [execOp, Act.eval, List.map_toArray, List.map_cons, List.map_nil, hq_, e28, e33]
        first | rfl | (go_simp; done) | (go_simp; rfl) | (simp [hq_]; done)
      · rw [if_neg hq_] at e33
        replace hq_ : (b && b0 && b1) = false := Bool.of_not_eq_true hq_
        refine wpOp_value (v := .bool (b && b0 && b1 && b2)) ho rfl ?_ ⟨_, rfl, rfl, Below.refl _ _⟩
        simp only [execOp, Act.eval, List.map_toArray, List.map_cons, List.map_nil, hq_, e28, e33]
        first | rfl | (go_simp; done) | (go_simp; rfl) | (simp [hq_]; done)
    | 24, ho, he => obtain rfl : o_ = ⟨_, _, _, _, _, _⟩ := (Option.some.inj ho).symm; obtain rfl := Option.some.inj he; clear he; have e34 : a.tmps.getD 34 undef = .bool (b && b0 && b1 && b2) := hpre ⟨23, .data⟩ (by simp) rfl (by decide) _ rfl; clear hpre hfr; refine wpOp_value (v := .bool (b && b0 && b1 && b2)) ho rfl ?_ ⟨_, rfl, rfl, Below.refl _ _⟩; simp only [execOp, Act.eval, List.map_toArray, List.map_cons, List.map_nil, e34]; first | rfl | (go_simp; done) | (go_simp; rfl) | (go_simp; intro h_; exfalso; omega)
    | 25, ho, he =>
      obtain rfl : o_ = ⟨_, _, _, _, _, _⟩ := (Option.some.inj ho).symm
      obtain rfl := Option.some.inj he; clear he
      have e35 : a.tmps.getD 35 undef = .bool (b && b0 && b1 && b2) := hpre ⟨24, .guard⟩ (by simp) rfl (by decide) _ rfl
      have f2 : a.tmps.getD 2 undef = .pointer (some ⟨w.heap.size, 0, none⟩) := by rw [Array.getD_eq_getD_getElem?, hfr 2 (show ¬ 2 ∈ ([11, 12, 13, 14, 15, 16, 17, 18, 19, 20, 21, 22, 23, 24, 25, 26, 27, 28, 29, 30, 31, 32, 33, 34, 35, 36, 37, 38, 39, 40, 41, 42, 43, 44, 45, 46, 47, 48, 49, 50, 51, 52, 53, 54, 55, 56, 57, 58, 59, 60, 61, 62, 63, 64, 65, 66, 67, 68, 69, 70, 71, 72, 73, 74, 75, 76, 77, 78, 79, 80, 81, 82, 83, 84, 85, 86, 87, 88, 89, 90, 4] : List Nat) by decide)]; rfl
      clear hpre hfr
      by_cases hq_ : (b && b0 && b1 && b2) = true
      · refine wpOp_value_w (v := .pointer (some ⟨w.heap.size, 3, none⟩)) ho (wanted_of (n := 24) (d := 35) rfl rfl (by rw [hs]; exact (show 35 < 91 by decide)) (e35.trans (congrArg _ hq_))) ?_ ⟨_, by rw [if_pos hq_], rfl, Below.refl _ _⟩
        simp only [execOp, Act.eval, List.map_toArray, List.map_cons, List.map_nil, e35, f2]
        first | rfl | (go_simp; done) | (go_simp; rfl) | (go_simp; intro h_; exfalso; omega)
      · exact wpOp_unwanted ho (unwanted_if (n := 24) (d := 35) rfl rfl e35 hq_) ⟨_, by rw [if_neg hq_], rfl, Below.refl _ _⟩
    | 26, ho, he =>
      obtain rfl : o_ = ⟨_, _, _, _, _, _⟩ := (Option.some.inj ho).symm
      obtain rfl := Option.some.inj he; clear he
      have e36 : a.tmps.getD 36 undef = if (b && b0 && b1 && b2) = true then .pointer (some ⟨w.heap.size, 3, none⟩) else undef := hpre ⟨25, .data⟩ (by simp) rfl (by decide) _ rfl
      have e35 : a.tmps.getD 35 undef = .bool (b && b0 && b1 && b2) := hpre ⟨24, .guard⟩ (by simp) rfl (by decide) _ rfl
      clear hpre hfr
      have k_q3 := (hbl.cell (World.block_lt_of_cell? _ _ q3)).trans q3
      by_cases hq_ : (b && b0 && b1 && b2) = true
      · rw [if_pos hq_] at e36
        refine wpOp_value_w (v := .int .i64 a0_3) ho (wanted_of (n := 24) (d := 35) rfl rfl (by rw [hs]; exact (show 35 < 91 by decide)) (e35.trans (congrArg _ hq_))) ?_ ⟨_, by rw [if_pos hq_], rfl, Below.refl _ _⟩
        simp only [execOp, Act.eval, List.map_toArray, List.map_cons, List.map_nil, e36, e35]
        first | rfl | (go_simp; done) | (go_simp; rfl) | (go_simp; intro h_; exfalso; omega)
      · exact wpOp_unwanted ho (unwanted_if (n := 24) (d := 35) rfl rfl e35 hq_) ⟨_, by rw [if_neg hq_], rfl, Below.refl _ _⟩
    | 27, ho, he =>
      obtain rfl : o_ = ⟨_, _, _, _, _, _⟩ := (Option.some.inj ho).symm
      obtain rfl := Option.some.inj he; clear he
      have e35 : a.tmps.getD 35 undef = .bool (b && b0 && b1 && b2) := hpre ⟨24, .guard⟩ (by simp) rfl (by decide) _ rfl
      have f3 : a.tmps.getD 3 undef = .pointer (some ⟨w.heap.size + 1, 0, none⟩) := by rw [Array.getD_eq_getD_getElem?, hfr 3 (show ¬ 3 ∈ ([11, 12, 13, 14, 15, 16, 17, 18, 19, 20, 21, 22, 23, 24, 25, 26, 27, 28, 29, 30, 31, 32, 33, 34, 35, 36, 37, 38, 39, 40, 41, 42, 43, 44, 45, 46, 47, 48, 49, 50, 51, 52, 53, 54, 55, 56, 57, 58, 59, 60, 61, 62, 63, 64, 65, 66, 67, 68, 69, 70, 71, 72, 73, 74, 75, 76, 77, 78, 79, 80, 81, 82, 83, 84, 85, 86, 87, 88, 89, 90, 4] : List Nat) by decide)]; rfl
      clear hpre hfr
      by_cases hq_ : (b && b0 && b1 && b2) = true
      · refine wpOp_value_w (v := .pointer (some ⟨w.heap.size + 1, 3, none⟩)) ho (wanted_of (n := 24) (d := 35) rfl rfl (by rw [hs]; exact (show 35 < 91 by decide)) (e35.trans (congrArg _ hq_))) ?_ ⟨_, by rw [if_pos hq_], rfl, Below.refl _ _⟩
        simp only [execOp, Act.eval, List.map_toArray, List.map_cons, List.map_nil, e35, f3]
        first | rfl | (go_simp; done) | (go_simp; rfl) | (go_simp; intro h_; exfalso; omega)
      · exact wpOp_unwanted ho (unwanted_if (n := 24) (d := 35) rfl rfl e35 hq_) ⟨_, by rw [if_neg hq_], rfl, Below.refl _ _⟩
    | 28, ho, he =>
      obtain rfl : o_ = ⟨_, _, _, _, _, _⟩ := (Option.some.inj ho).symm
      obtain rfl := Option.some.inj he; clear he
      have e38 : a.tmps.getD 38 undef = if (b && b0 && b1 && b2) = true then .pointer (some ⟨w.heap.size + 1, 3, none⟩) else undef := hpre ⟨27, .data⟩ (by simp) rfl (by decide) _ rfl
      have e35 : a.tmps.getD 35 undef = .bool (b && b0 && b1 && b2) := hpre ⟨24, .guard⟩ (by simp) rfl (by decide) _ rfl
      clear hpre hfr
      have k_r3 := (hbl.cell (World.block_lt_of_cell? _ _ r3)).trans r3
      by_cases hq_ : (b && b0 && b1 && b2) = true
      · rw [if_pos hq_] at e38
        refine wpOp_value_w (v := .int .i64 a1_3) ho (wanted_of (n := 24) (d := 35) rfl rfl (by rw [hs]; exact (show 35 < 91 by decide)) (e35.trans (congrArg _ hq_))) ?_ ⟨_, by rw [if_pos hq_], rfl, Below.refl _ _⟩
        simp only [execOp, Act.eval, List.map_toArray, List.map_cons, List.map_nil, e38, e35]
        first | rfl | (go_simp; done) | (go_simp; rfl) | (go_simp; intro h_; exfalso; omega)
      · exact wpOp_unwanted ho (unwanted_if (n := 24) (d := 35) rfl rfl e35 hq_) ⟨_, by rw [if_neg hq_], rfl, Below.refl _ _⟩
    | 29, ho, he =>
      obtain rfl : o_ = ⟨_, _, _, _, _, _⟩ := (Option.some.inj ho).symm
      obtain rfl := Option.some.inj he; clear he
      have e37 : a.tmps.getD 37 undef = if (b && b0 && b1 && b2) = true then .int .i64 a0_3 else undef := hpre ⟨26, .data⟩ (by simp) rfl (by decide) _ rfl
      have e39 : a.tmps.getD 39 undef = if (b && b0 && b1 && b2) = true then .int .i64 a1_3 else undef := hpre ⟨28, .data⟩ (by simp) rfl (by decide) _ rfl
      have e35 : a.tmps.getD 35 undef = .bool (b && b0 && b1 && b2) := hpre ⟨24, .guard⟩ (by simp) rfl (by decide) _ rfl
      clear hpre hfr
      by_cases hq_ : (b && b0 && b1 && b2) = true
      · rw [if_pos hq_] at e37
        rw [if_pos hq_] at e39
        refine wpOp_value_w (v := .bool (b3)) ho (wanted_of (n := 24) (d := 35) rfl rfl (by rw [hs]; exact (show 35 < 91 by decide)) (e35.trans (congrArg _ hq_))) ?_ ⟨_, by rw [if_pos hq_], rfl, Below.refl _ _⟩
        simp only [execOp, Act.eval, List.map_toArray, List.map_cons, List.map_nil, e37, e39, e35]
        first | rfl | (go_simp; done) | (go_simp; rfl) | (go_simp; intro h_; exfalso; omega)
      · exact wpOp_unwanted ho (unwanted_if (n := 24) (d := 35) rfl rfl e35 hq_) ⟨_, by rw [if_neg hq_], rfl, Below.refl _ _⟩
    | 30, ho, he =>
      obtain rfl : o_ = ⟨_, _, _, _, _, _⟩ := (Option.some.inj ho).symm
      obtain rfl := Option.some.inj he; clear he
      have e35 : a.tmps.getD 35 undef = .bool (b && b0 && b1 && b2) := hpre ⟨24, .data⟩ (by simp) rfl (by decide) _ rfl
      have e40 : a.tmps.getD 40 undef = if (b && b0 && b1 && b2) = true then .bool (b3) else undef := hpre ⟨29, .data⟩ (by simp) rfl (by decide) _ rfl
      clear hpre hfr
      by_cases hq_ : (b && b0 && b1 && b2) = true
      · rw [if_pos hq_] at e40
        refine wpOp_value (v := .bool (b && b0 && b1 && b2 && b3)) ho rfl ?_ ⟨_, rfl, rfl, Below.refl _ _⟩
        simp only [execOp, Act.eval, List.map_toArray, List.map_cons, List.map_nil, hq_, e35, e40]
        first | rfl | (go_simp; done) | (go_simp; rfl) | (simp [hq_]; done)
      · rw [if_neg hq_] at e40
        replace hq_ : (b && b0 && b1 && b2) = false := Bool.of_not_eq_true hq_
        refine wpOp_value (v := .bool (b && b0 && b1 && b2 && b3)) ho rfl ?_ ⟨_, rfl, rfl, Below.refl _ _⟩
        simp only [execOp, Act.eval, List.map_toArray, List.map_cons, List.map_nil, hq_, e35, e40]
        first | rfl | (go_simp; done) | (go_simp; rfl) | (simp [hq_]; done)
    | 31, ho, he => obtain rfl : o_ = ⟨_, _, _, _, _, _⟩ := (Option.some.inj ho).symm; obtain rfl := Option.some.inj he; clear he; have e41 : a.tmps.getD 41 undef = .bool (b && b0 && b1 && b2 && b3) := hpre ⟨30, .data⟩ (by simp) rfl (by decide) _ rfl; clear hpre hfr; refine wpOp_value (v := .bool (b && b0 && b1 && b2 && b3)) ho rfl ?_ ⟨_, rfl, rfl, Below.refl _ _⟩; simp only [execOp, Act.eval, List.map_toArray, List.map_cons, List.map_nil, e41]; first | rfl | (go_simp; done) | (go_simp; rfl) | (go_simp; intro h_; exfalso; omega)
    | 32, ho, he =>
      obtain rfl : o_ = ⟨_, _, _, _, _, _⟩ := (Option.some.inj ho).symm
      obtain rfl := Option.some.inj he; clear he
      have e42 : a.tmps.getD 42 undef = .bool (b && b0 && b1 && b2 && b3) := hpre ⟨31, .guard⟩ (by simp) rfl (by decide) _ rfl
      have f2 : a.tmps.getD 2 undef = .pointer (some ⟨w.heap.size, 0, none⟩) := by rw [Array.getD_eq_getD_getElem?, hfr 2 (show ¬ 2 ∈ ([11, 12, 13, 14, 15, 16, 17, 18, 19, 20, 21, 22, 23, 24, 25, 26, 27, 28, 29, 30, 31, 32, 33, 34, 35, 36, 37, 38, 39, 40, 41, 42, 43, 44, 45, 46, 47, 48, 49, 50, 51, 52, 53, 54, 55, 56, 57, 58, 59, 60, 61, 62, 63, 64, 65, 66, 67, 68, 69, 70, 71, 72, 73, 74, 75, 76, 77, 78, 79, 80, 81, 82, 83, 84, 85, 86, 87, 88, 89, 90, 4] : List Nat) by decide)]; rfl
      clear hpre hfr
      by_cases hq_ : (b && b0 && b1 && b2 && b3) = true
      · refine wpOp_value_w (v := .pointer (some ⟨w.heap.size, 4, none⟩)) ho (wanted_of (n := 31) (d := 42) rfl rfl (by rw [hs]; exact (show 42 < 91 by decide)) (e42.trans (congrArg _ hq_))) ?_ ⟨_, by rw [if_pos hq_], rfl, Below.refl _ _⟩
        simp only [execOp, Act.eval, List.map_toArray, List.map_cons, List.map_nil, e42, f2]
        first | rfl | (go_simp; done) | (go_simp; rfl) | (go_simp; intro h_; exfalso; omega)
      · exact wpOp_unwanted ho (unwanted_if (n := 31) (d := 42) rfl rfl e42 hq_) ⟨_, by rw [if_neg hq_], rfl, Below.refl _ _⟩
    | 33, ho, he =>
      obtain rfl : o_ = ⟨_, _, _, _, _, _⟩ := (Option.some.inj ho).symm
      obtain rfl := Option.some.inj he; clear he
      have e43 : a.tmps.getD 43 undef = if (b && b0 && b1 && b2 && b3) = true then .pointer (some ⟨w.heap.size, 4, none⟩) else undef := hpre ⟨32, .data⟩ (by simp) rfl (by decide) _ rfl
      have e42 : a.tmps.getD 42 undef = .bool (b && b0 && b1 && b2 && b3) := hpre ⟨31, .guard⟩ (by simp) rfl (by decide) _ rfl
      clear hpre hfr
      have k_q4 := (hbl.cell (World.block_lt_of_cell? _ _ q4)).trans q4
      by_cases hq_ : (b && b0 && b1 && b2 && b3) = true
      · rw [if_pos hq_] at e43
        refine wpOp_value_w (v := .int .i64 a0_4) ho (wanted_of (n := 31) (d := 42) rfl rfl (by rw [hs]; exact (show 42 < 91 by decide)) (e42.trans (congrArg _ hq_))) ?_ ⟨_, by rw [if_pos hq_], rfl, Below.refl _ _⟩
        simp only [execOp, Act.eval, List.map_toArray, List.map_cons, List.map_nil, e43, e42]
        first | rfl | (go_simp; done) | (go_simp; rfl) | (go_simp; intro h_; exfalso; omega)
      · exact wpOp_unwanted ho (unwanted_if (n := 31) (d := 42) rfl rfl e42 hq_) ⟨_, by rw [if_neg hq_], rfl, Below.refl _ _⟩
    | 34, ho, he =>
      obtain rfl : o_ = ⟨_, _, _, _, _, _⟩ := (Option.some.inj ho).symm
      obtain rfl := Option.some.inj he; clear he
      have e42 : a.tmps.getD 42 undef = .bool (b && b0 && b1 && b2 && b3) := hpre ⟨31, .guard⟩ (by simp) rfl (by decide) _ rfl
      have f3 : a.tmps.getD 3 undef = .pointer (some ⟨w.heap.size + 1, 0, none⟩) := by rw [Array.getD_eq_getD_getElem?, hfr 3 (show ¬ 3 ∈ ([11, 12, 13, 14, 15, 16, 17, 18, 19, 20, 21, 22, 23, 24, 25, 26, 27, 28, 29, 30, 31, 32, 33, 34, 35, 36, 37, 38, 39, 40, 41, 42, 43, 44, 45, 46, 47, 48, 49, 50, 51, 52, 53, 54, 55, 56, 57, 58, 59, 60, 61, 62, 63, 64, 65, 66, 67, 68, 69, 70, 71, 72, 73, 74, 75, 76, 77, 78, 79, 80, 81, 82, 83, 84, 85, 86, 87, 88, 89, 90, 4] : List Nat) by decide)]; rfl
      clear hpre hfr
      by_cases hq_ : (b && b0 && b1 && b2 && b3) = true
      · refine wpOp_value_w (v := .pointer (some ⟨w.heap.size + 1, 4, none⟩)) ho (wanted_of (n := 31) (d := 42) rfl rfl (by rw [hs]; exact (show 42 < 91 by decide)) (e42.trans (congrArg _ hq_))) ?_ ⟨_, by rw [if_pos hq_], rfl, Below.refl _ _⟩
        simp only [execOp, Act.eval, List.map_toArray, List.map_cons, List.map_nil, e42, f3]
        first | rfl | (go_simp; done) | (go_simp; rfl) | (go_simp; intro h_; exfalso; omega)
      · exact wpOp_unwanted ho (unwanted_if (n := 31) (d := 42) rfl rfl e42 hq_) ⟨_, by rw [if_neg hq_], rfl, Below.refl _ _⟩
    | 35, ho, he =>
      obtain rfl : o_ = ⟨_, _, _, _, _, _⟩ := (Option.some.inj ho).symm
      obtain rfl := Option.some.inj he; clear he
      have e45 : a.tmps.getD 45 undef = if (b && b0 && b1 && b2 && b3) = true then .pointer (some ⟨w.heap.size + 1, 4, none⟩) else undef := hpre ⟨34, .data⟩ (by simp) rfl (by decide) _ rfl
      have e42 : a.tmps.getD 42 undef = .bool (b && b0 && b1 && b2 && b3) := hpre ⟨31, .guard⟩ (by simp) rfl (by decide) _ rfl
      clear hpre hfr
      have k_r4 := (hbl.cell (World.block_lt_of_cell? _ _ r4)).trans r4
      by_cases hq_ : (b && b0 && b1 && b2 && b3) = true
      · rw [if_pos hq_] at e45
        refine wpOp_value_w (v := .int .i64 a1_4) ho (wanted_of (n := 31) (d := 42) rfl rfl (by rw [hs]; exact (show 42 < 91 by decide)) (e42.trans (congrArg _ hq_))) ?_ ⟨_, by rw [if_pos hq_], rfl, Below.refl _ _⟩
        simp only [execOp, Act.eval, List.map_toArray, List.map_cons, List.map_nil, e45, e42]
        first | rfl | (go_simp; done) | (go_simp; rfl) | (go_simp; intro h_; exfalso; omega)
      · exact wpOp_unwanted ho (unwanted_if (n := 31) (d := 42) rfl rfl e42 hq_) ⟨_, by rw [if_neg hq_], rfl, Below.refl _ _⟩
    | 36, ho, he =>
      obtain rfl : o_ = ⟨_, _, _, _, _, _⟩ := (Option.some.inj ho).symm
      obtain rfl := Option.some.inj he; clear he
      have e44 : a.tmps.getD 44 undef = if (b && b0 && b1 && b2 && b3) = true then .int .i64 a0_4 else undef := hpre ⟨33, .data⟩ (by simp) rfl (by decide) _ rfl
      have e46 : a.tmps.getD 46 undef = if (b && b0 && b1 && b2 && b3) = true then .int .i64 a1_4 else undef := hpre ⟨35, .data⟩ (by simp) rfl (by decide) _ rfl
      have e42 : a.tmps.getD 42 undef = .bool (b && b0 && b1 && b2 && b3) := hpre ⟨31, .guard⟩ (by simp) rfl (by decide) _ rfl
      clear hpre hfr
      by_cases hq_ : (b && b0 && b1 && b2 && b3) = true
      · rw [if_pos hq_] at e44
        rw [if_pos hq_] at e46
        refine wpOp_value_w (v := .bool (b4)) ho (wanted_of (n := 31) (d := 42) rfl rfl (by rw [hs]; exact (show 42 < 91 by decide)) (e42.trans (congrArg _ hq_))) ?_ ⟨_, by rw [if_pos hq_], rfl, Below.refl _ _⟩
        simp only [execOp, Act.eval, List.map_toArray, List.map_cons, List.map_nil, e44, e46, e42]
        first | rfl | (go_simp; done) | (go_simp; rfl) | (go_simp; intro h_; exfalso; omega)
      · exact wpOp_unwanted ho (unwanted_if (n := 31) (d := 42) rfl rfl e42 hq_) ⟨_, by rw [if_neg hq_], rfl, Below.refl _ _⟩
    | 37, ho, he =>
      obtain rfl : o_ = ⟨_, _, _, _, _, _⟩ := (Option.some.inj ho).symm
      obtain rfl := Option.some.inj he; clear he
      have e42 : a.tmps.getD 42 undef = .bool (b && b0 && b1 && b2 && b3) := hpre ⟨31, .data⟩ (by simp) rfl (by decide) _ rfl
      have e47 : a.tmps.getD 47 undef = if (b && b0 && b1 && b2 && b3) = true then .bool (b4) else undef := hpre ⟨36, .data⟩ (by simp) rfl (by decide) _ rfl
      clear hpre hfr
      by_cases hq_ : (b && b0 && b1 && b2 && b3) = true
      · rw [if_pos hq_] at e47
        refine wpOp_value (v := .bool (b && b0 && b1 && b2 && b3 && b4)) ho rfl ?_ ⟨_, rfl, rfl, Below.refl _ _⟩
        simp only [execOp, Act.eval, List.map_toArray, List.map_cons, List.map_nil, hq_, e42, e47]
        first | rfl | (go_simp; done) | (go_simp; rfl) | (simp [hq_]; done)
      · rw [if_neg hq_] at e47
        replace hq_ : (b && b0 && b1 && b2 && b3) = false := Bool.of_not_eq_true hq_
        refine wpOp_value (v := .bool (b && b0 && b1 && b2 && b3 && b4)) ho rfl ?_ ⟨_, rfl, rfl, Below.refl _ _⟩
        simp only [execOp, Act.eval, List.map_toArray, List.map_cons, List.map_nil, hq_, e42, e47]
        first | rfl | (go_simp; done) | (go_simp; rfl) | (simp [hq_]; done)
    | 38, ho, he => obtain rfl : o_ = ⟨_, _, _, _, _, _⟩ := (Option.some.inj ho).symm; obtain rfl := Option.some.inj he; clear he; have e48 : a.tmps.getD 48 undef = .bool (b && b0 && b1 && b2 && b3 && b4) := hpre ⟨37, .data⟩ (by simp) rfl (by decide) _ rfl; clear hpre hfr; refine wpOp_value (v := .bool (b && b0 && b1 && b2 && b3 && b4)) ho rfl ?_ ⟨_, rfl, rfl, Below.refl _ _⟩; simp only [execOp, Act.eval, List.map_toArray, List.map_cons, List.map_nil, e48]; first | rfl | (go_simp; done) | (go_simp; rfl) | (go_simp; intro h_; exfalso; omega)
    | 39, ho, he =>
      obtain rfl : o_ = ⟨_, _, _, _, _, _⟩ := (Option.some.inj ho).symm
      obtain rfl := Option.some.inj he; clear he
      have e49 : a.tmps.getD 49 undef = .bool (b && b0 && b1 && b2 && b3 && b4) := hpre ⟨38, .guard⟩ (by simp) rfl (by decide) _ rfl
      have f2 : a.tmps.getD 2 undef = .pointer (some ⟨w.heap.size, 0, none⟩) := by rw [Array.getD_eq_getD_getElem?, hfr 2 (show ¬ 2 ∈ ([11, 12, 13, 14, 15, 16, 17, 18, 19, 20, 21, 22, 23, 24, 25, 26, 27, 28, 29, 30, 31, 32, 33, 34, 35, 36, 37, 38, 39, 40, 41, 42, 43, 44, 45, 46, 47, 48, 49, 50, 51, 52, 53, 54, 55, 56, 57, 58, 59, 60, 61, 62, 63, 64, 65, 66, 67, 68, 69, 70, 71, 72, 73, 74, 75, 76, 77, 78, 79, 80, 81, 82, 83, 84, 85, 86, 87, 88, 89, 90, 4] : List Nat) by decide)]; rfl
      clear hpre hfr
      by_cases hq_ : (b && b0 && b1 && b2 && b3 && b4) = true
      · refine wpOp_value_w (v := .pointer (some ⟨w.heap.size, 5, none⟩)) ho (wanted_of (n := 38) (d := 49) rfl rfl (by rw [hs]; exact (show 49 < 91 by decide)) (e49.trans (congrArg _ hq_))) ?_ ⟨_, by rw [if_pos hq_], rfl, Below.refl _ _⟩
        simp only [execOp, Act.eval, List.map_toArray, List.map_cons, List.map_nil, e49, f2]
        first | rfl | (go_simp; done) | (go_simp; rfl) | (go_simp; intro h_; exfalso; omega)
      · exact wpOp_unwanted ho (unwanted_if (n := 38) (d := 49) rfl rfl e49 hq_) ⟨_, by rw [if_neg hq_], rfl, Below.refl _ _⟩
    | 40, ho, he =>
      obtain rfl : o_ = ⟨_, _, _, _, _, _⟩ := (Option.some.inj ho).symm
      obtain rfl := Option.some.inj he; clear he
      have e50 : a.tmps.getD 50 undef = if (b && b0 && b1 && b2 && b3 && b4) = true then .pointer (some ⟨w.heap.size, 5, none⟩) else undef := hpre ⟨39, .data⟩ (by simp) rfl (by decide) _ rfl
      have e49 : a.tmps.getD 49 undef = .bool (b && b0 && b1 && b2 && b3 && b4) := hpre ⟨38, .guard⟩ (by simp) rfl (by decide) _ rfl
      clear hpre hfr
      have k_q5 := (hbl.cell (World.block_lt_of_cell? _ _ q5)).trans q5
      by_cases hq_ : (b && b0 && b1 && b2 && b3 && b4) = true
      · rw [if_pos hq_] at e50
        refine wpOp_value_w (v := .int .i64 a0_5) ho (wanted_of (n := 38) (d := 49) rfl rfl (by rw [hs]; exact (show 49 < 91 by decide)) (e49.trans (congrArg _ hq_))) ?_ ⟨_, by rw [if_pos hq_], rfl, Below.refl _ _⟩
        simp only [execOp, Act.eval, List.map_toArray, List.map_cons, List.map_nil, e50, e49]
        first | rfl | (go_simp; done) | (go_simp; rfl) | (go_simp; intro h_; exfalso; omega)
      · exact wpOp_unwanted ho (unwanted_if (n := 38) (d := 49) rfl rfl e49 hq_) ⟨_, by rw [if_neg hq_], rfl, Below.refl _ _⟩
    | 41, ho, he =>
      obtain rfl : o_ = ⟨_, _, _, _, _, _⟩ := (Option.some.inj ho).symm
      obtain rfl := Option.some.inj he; clear he
      have e49 : a.tmps.getD 49 undef = .bool (b && b0 && b1 && b2 && b3 && b4) := hpre ⟨38, .guard⟩ (by simp) rfl (by decide) _ rfl
      have f3 : a.tmps.getD 3 undef = .pointer (some ⟨w.heap.size + 1, 0, none⟩) := by rw [Array.getD_eq_getD_getElem?, hfr 3 (show ¬ 3 ∈ ([11, 12, 13, 14, 15, 16, 17, 18, 19, 20, 21, 22, 23, 24, 25, 26, 27, 28, 29, 30, 31, 32, 33, 34, 35, 36, 37, 38, 39, 40, 41, 42, 43, 44, 45, 46, 47, 48, 49, 50, 51, 52, 53, 54, 55, 56, 57, 58, 59, 60, 61, 62, 63, 64, 65, 66, 67, 68, 69, 70, 71, 72, 73, 74, 75, 76, 77, 78, 79, 80, 81, 82, 83, 84, 85, 86, 87, 88, 89, 90, 4] : List Nat) by decide)]; rfl
      clear hpre hfr
      by_cases hq_ : (b && b0 && b1 && b2 && b3 && b4) = true
      · refine wpOp_value_w (v := .pointer (some ⟨w.heap.size + 1, 5, none⟩)) ho (wanted_of (n := 38) (d := 49) rfl rfl (by rw [hs]; exact (show 49 < 91 by decide)) (e49.trans (congrArg _ hq_))) ?_ ⟨_, by rw [if_pos hq_], rfl, Below.refl _ _⟩
        simp only [execOp, Act.eval, List.map_toArray, List.map_cons, List.map_nil, e49, f3]
        first | rfl | (go_simp; done) | (go_simp; rfl) | (go_simp; intro h_; exfalso; omega)
      · exact wpOp_unwanted ho (unwanted_if (n := 38) (d := 49) rfl rfl e49 hq_) ⟨_, by rw [if_neg hq_], rfl, Below.refl _ _⟩
    | 42, ho, he =>
      obtain rfl : o_ = ⟨_, _, _, _, _, _⟩ := (Option.some.inj ho).symm
      obtain rfl := Option.some.inj he; clear he
      have e52 : a.tmps.getD 52 undef = if (b && b0 && b1 && b2 && b3 && b4) = true then .pointer (some ⟨w.heap.size + 1, 5, none⟩) else undef := hpre ⟨41, .data⟩ (by simp) rfl (by decide) _ rfl
      have e49 : a.tmps.getD 49 undef = .bool (b && b0 && b1 && b2 && b3 && b4) := hpre ⟨38, .guard⟩ (by simp) rfl (by decide) _ rfl
      clear hpre hfr
      have k_r5 := (hbl.cell (World.block_lt_of_cell? _ _ r5)).trans r5
      by_cases hq_ : (b && b0 && b1 && b2 && b3 && b4) = true
      · rw [if_pos hq_] at e52
        refine wpOp_value_w (v := .int .i64 a1_5) ho (wanted_of (n := 38) (d := 49) rfl rfl (by rw [hs]; exact (show 49 < 91 by decide)) (e49.trans (congrArg _ hq_))) ?_ ⟨_, by rw [if_pos hq_], rfl, Below.refl _ _⟩
        simp only [execOp, Act.eval, List.map_toArray, List.map_cons, List.map_nil, e52, e49]
        first | rfl | (go_simp; done) | (go_simp; rfl) | (go_simp; intro h_; exfalso; omega)
      · exact wpOp_unwanted ho (unwanted_if (n := 38) (d := 49) rfl rfl e49 hq_) ⟨_, by rw [if_neg hq_], rfl, Below.refl _ _⟩
    | 43, ho, he =>
      obtain rfl : o_ = ⟨_, _, _, _, _, _⟩ := (Option.some.inj ho).symm
      obtain rfl := Option.some.inj he; clear he
      have e51 : a.tmps.getD 51 undef = if (b && b0 && b1 && b2 && b3 && b4) = true then .int .i64 a0_5 else undef := hpre ⟨40, .data⟩ (by simp) rfl (by decide) _ rfl
      have e53 : a.tmps.getD 53 undef = if (b && b0 && b1 && b2 && b3 && b4) = true then .int .i64 a1_5 else undef := hpre ⟨42, .data⟩ (by simp) rfl (by decide) _ rfl
      have e49 : a.tmps.getD 49 undef = .bool (b && b0 && b1 && b2 && b3 && b4) := hpre ⟨38, .guard⟩ (by simp) rfl (by decide) _ rfl
      clear hpre hfr
      by_cases hq_ : (b && b0 && b1 && b2 && b3 && b4) = true
      · rw [if_pos hq_] at e51
        rw [if_pos hq_] at e53
        refine wpOp_value_w (v := .bool (b5)) ho (wanted_of (n := 38) (d := 49) rfl rfl (by rw [hs]; exact (show 49 < 91 by decide)) (e49.trans (congrArg _ hq_))) ?_ ⟨_, by rw [if_pos hq_], rfl, Below.refl _ _⟩
        simp only [execOp, Act.eval, List.map_toArray, List.map_cons, List.map_nil, e51, e53, e49]
        first | rfl | (go_simp; done) | (go_simp; rfl) | (go_simp; intro h_; exfalso; omega)
      · exact wpOp_unwanted ho (unwanted_if (n := 38) (d := 49) rfl rfl e49 hq_) ⟨_, by rw [if_neg hq_], rfl, Below.refl _ _⟩
    | 44, ho, he =>
      obtain rfl : o_ = ⟨_, _, _, _, _, _⟩ := (Option.some.inj ho).symm
      obtain rfl := Option.some.inj he; clear he
      have e49 : a.tmps.getD 49 undef = .bool (b && b0 && b1 && b2 && b3 && b4) := hpre ⟨38, .data⟩ (by simp) rfl (by decide) _ rfl
      have e54 : a.tmps.getD 54 undef = if (b && b0 && b1 && b2 && b3 && b4) = true then .bool (b5) else undef := hpre ⟨43, .data⟩ (by simp) rfl (by decide) _ rfl
      clear hpre hfr
      by_cases hq_ : (b && b0 && b1 && b2 && b3 && b4) = true
      · rw [if_pos hq_] at e54
        refine wpOp_value (v := .bool (b && b0 && b1 && b2 && b3 && b4 && b5)) ho rfl ?_ ⟨_, rfl, rfl, Below.refl _ _⟩
        simp only [execOp, Act.eval, List.map_toArray, List.map_cons, List.map_nil, hq_, e49, e54]
        first | rfl | (go_simp; done) | (go_simp; rfl) | (simp [hq_]; done)
      · rw [if_neg hq_] at e54
        replace hq_ : (b && b0 && b1 && b2 && b3 && b4) = false := Bool.of_not_eq_true hq_
        refine wpOp_value (v := .bool (b && b0 && b1 && b2 && b3 && b4 && b5)) ho rfl ?_ ⟨_, rfl, rfl, Below.refl _ _⟩
        simp only [execOp, Act.eval, List.map_toArray, List.map_cons, List.map_nil, hq_, e49, e54]
        first | rfl | (go_simp; done) | (go_simp; rfl) | (simp [hq_]; done)
    | 45, ho, he => obtain rfl : o_ = ⟨_, _, _, _, _, _⟩ := (Option.some.inj ho).symm; obtain rfl := Option.some.inj he; clear he; have e55 : a.tmps.getD 55 undef = .bool (b && b0 && b1 && b2 && b3 && b4 && b5) := hpre ⟨44, .data⟩ (by simp) rfl (by decide) _ rfl; clear hpre hfr; refine wpOp_value (v := .bool (b && b0 && b1 && b2 && b3 && b4 && b5)) ho rfl ?_ ⟨_, rfl, rfl, Below.refl _ _⟩; simp only [execOp, Act.eval, List.map_toArray, List.map_cons, List.map_nil, e55]; first | rfl | (go_simp; done) | (go_simp; rfl) | (go_simp; intro h_; exfalso; omega)
    | 46, ho, he =>
      obtain rfl : o_ = ⟨_, _, _, _, _, _⟩ := (Option.some.inj ho).symm
      obtain rfl := Option.some.inj he; clear he
      have e56 : a.tmps.getD 56 undef = .bool (b && b0 && b1 && b2 && b3 && b4 && b5) := hpre ⟨45, .guard⟩ (by simp) rfl (by decide) _ rfl
      have f2 : a.tmps.getD 2 undef = .pointer (some ⟨w.heap.size, 0, none⟩) := by rw [Array.getD_eq_getD_getElem?, hfr 2 (show ¬ 2 ∈ ([11, 12, 13, 14, 15, 16, 17, 18, 19, 20, 21, 22, 23, 24, 25, 26, 27, 28, 29, 30, 31, 32, 33, 34, 35, 36, 37, 38, 39, 40, 41, 42, 43, 44, 45, 46, 47, 48, 49, 50, 51, 52, 53, 54, 55, 56, 57, 58, 59, 60, 61, 62, 63, 64, 65, 66, 67, 68, 69, 70, 71, 72, 73, 74, 75, 76, 77, 78, 79, 80, 81, 82, 83, 84, 85, 86, 87, 88, 89, 90, 4] : List Nat) by decide)]; rfl
      clear hpre hfr
      by_cases hq_ : (b && b0 && b1 && b2 && b3 && b4 && b5) = true
      · refine wpOp_value_w (v := .pointer (some ⟨w.heap.size, 6, none⟩)) ho (wanted_of (n := 45) (d := 56) rfl rfl (by rw [hs]; exact (show 56 < 91 by decide)) (e56.trans (congrArg _ hq_))) ?_ ⟨_, by rw [if_pos hq_], rfl, Below.refl _ _⟩
        simp only [execOp, Act.eval, List.map_toArray, List.map_cons, List.map_nil, e56, f2]
        first | rfl | (go_simp; done) | (go_simp; rfl) | (go_simp; intro h_; exfalso; omega)
      · exact wpOp_unwanted ho (unwanted_if (n := 45) (d := 56) rfl rfl e56 hq_) ⟨_, by rw [if_neg hq_], rfl, Below.refl _ _⟩
    | 47, ho, he =>
      obtain rfl : o_ = ⟨_, _, _, _, _, _⟩ := (Option.some.inj ho).symm
      obtain rfl := Option.some.inj he; clear he
      have e57 : a.tmps.getD 57 undef = if (b && b0 && b1 && b2 && b3 && b4 && b5) = true then .pointer (some ⟨w.heap.size, 6, none⟩) else undef := hpre ⟨46, .data⟩ (by simp) rfl (by decide) _ rfl
      have e56 : a.tmps.getD 56 undef = .bool (b && b0 && b1 && b2 && b3 && b4 && b5) := hpre ⟨45, .guard⟩ (by simp) rfl (by decide) _ rfl
      clear hpre hfr
      have k_q6 := (hbl.cell (World.block_lt_of_cell? _ _ q6)).trans q6
      by_cases hq_ : (b && b0 && b1 && b2 && b3 && b4 && b5) = true
      · rw [if_pos hq_] at e57
        refine wpOp_value_w (v := .int .i64 a0_6) ho (wanted_of (n := 45) (d := 56) rfl rfl (by rw [hs]; exact (show 56 < 91 by decide)) (e56.trans (congrArg _ hq_))) ?_ ⟨_, by rw [if_pos hq_], rfl, Below.refl _ _⟩
        simp only [execOp, Act.eval, List.map_toArray, List.map_cons, List.map_nil, e57, e56]
        first | rfl | (go_simp; done) | (go_simp; rfl) | (go_simp; intro h_; exfalso; omega)
      · exact wpOp_unwanted ho (unwanted_if (n := 45) (d := 56) rfl rfl e56 hq_) ⟨_, by rw [if_neg hq_], rfl, Below.refl _ _⟩
    | 48, ho, he =>
      obtain rfl : o_ = ⟨_, _, _, _, _, _⟩ := (Option.some.inj ho).symm
      obtain rfl := Option.some.inj he; clear he
      have e56 : a.tmps.getD 56 undef = .bool (b && b0 && b1 && b2 && b3 && b4 && b5) := hpre ⟨45, .guard⟩ (by simp) rfl (by decide) _ rfl
      have f3 : a.tmps.getD 3 undef = .pointer (some ⟨w.heap.size + 1, 0, none⟩) := by rw [Array.getD_eq_getD_getElem?, hfr 3 (show ¬ 3 ∈ ([11, 12, 13, 14, 15, 16, 17, 18, 19, 20, 21, 22, 23, 24, 25, 26, 27, 28, 29, 30, 31, 32, 33, 34, 35, 36, 37, 38, 39, 40, 41, 42, 43, 44, 45, 46, 47, 48, 49, 50, 51, 52, 53, 54, 55, 56, 57, 58, 59, 60, 61, 62, 63, 64, 65, 66, 67, 68, 69, 70, 71, 72, 73, 74, 75, 76, 77, 78, 79, 80, 81, 82, 83, 84, 85, 86, 87, 88, 89, 90, 4] : List Nat) by decide)]; rfl
      clear hpre hfr
      by_cases hq_ : (b && b0 && b1 && b2 && b3 && b4 && b5) = true
      · refine wpOp_value_w (v := .pointer (some ⟨w.heap.size + 1, 6, none⟩)) ho (wanted_of (n := 45) (d := 56) rfl rfl (by rw [hs]; exact (show 56 < 91 by decide)) (e56.trans (congrArg _ hq_))) ?_ ⟨_, by rw [if_pos hq_], rfl, Below.refl _ _⟩
        simp only [execOp, Act.eval, List.map_toArray, List.map_cons, List.map_nil, e56, f3]
        first | rfl | (go_simp; done) | (go_simp; rfl) | (go_simp; intro h_; exfalso; omega)
      · exact wpOp_unwanted ho (unwanted_if (n := 45) (d := 56) rfl rfl e56 hq_) ⟨_, by rw [if_neg hq_], rfl, Below.refl _ _⟩
    | 49, ho, he =>
      obtain rfl : o_ = ⟨_, _, _, _, _, _⟩ := (Option.some.inj ho).symm
      obtain rfl := Option.some.inj he; clear he
      have e59 : a.tmps.getD 59 undef = if (b && b0 && b1 && b2 && b3 && b4 && b5) = true then .pointer (some ⟨w.heap.size + 1, 6, none⟩) else undef := hpre ⟨48, .data⟩ (by simp) rfl (by decide) _ rfl
      have e56 : a.tmps.getD 56 undef = .bool (b && b0 && b1 && b2 && b3 && b4 && b5) := hpre ⟨45, .guard⟩ (by simp) rfl (by decide) _ rfl
      clear hpre hfr
      have k_r6 := (hbl.cell (World.block_lt_of_cell? _ _ r6)).trans r6
      by_cases hq_ : (b && b0 && b1 && b2 && b3 && b4 && b5) = true
      · rw [if_pos hq_] at e59
        refine wpOp_value_w (v := .int .i64 a1_6) ho (wanted_of (n := 45) (d := 56) rfl rfl (by rw [hs]; exact (show 56 < 91 by decide)) (e56.trans (congrArg _ hq_))) ?_ ⟨_, by rw [if_pos hq_], rfl, Below.refl _ _⟩
        simp only [execOp, Act.eval, List.map_toArray, List.map_cons, List.map_nil, e59, e56]
        first | rfl | (go_simp; done) | (go_simp; rfl) | (go_simp; intro h_; exfalso; omega)
      · exact wpOp_unwanted ho (unwanted_if (n := 45) (d := 56) rfl rfl e56 hq_) ⟨_, by rw [if_neg hq_], rfl, Below.refl _ _⟩
    | 50, ho, he =>
      obtain rfl : o_ = ⟨_, _, _, _, _, _⟩ := (Option.some.inj ho).symm
      obtain rfl := Option.some.inj he; clear he
      have e58 : a.tmps.getD 58 undef = if (b && b0 && b1 && b2 && b3 && b4 && b5) = true then .int .i64 a0_6 else undef := hpre ⟨47, .data⟩ (by simp) rfl (by decide) _ rfl
      have e60 : a.tmps.getD 60 undef = if (b && b0 && b1 && b2 && b3 && b4 && b5) = true then .int .i64 a1_6 else undef := hpre ⟨49, .data⟩ (by simp) rfl (by decide) _ rfl
      have e56 : a.tmps.getD 56 undef = .bool (b && b0 && b1 && b2 && b3 && b4 && b5) := hpre ⟨45, .guard⟩ (by simp) rfl (by decide) _ rfl
      clear hpre hfr
      by_cases hq_ : (b && b0 && b1 && b2 && b3 && b4 && b5) = true
      · rw [if_pos hq_] at e58
        rw [if_pos hq_] at e60
        refine wpOp_value_w (v := .bool (b6)) ho (wanted_of (n := 45) (d := 56) rfl rfl (by rw [hs]; exact (show 56 < 91 by decide)) (e56.trans (congrArg _ hq_))) ?_ ⟨_, by rw [if_pos hq_], rfl, Below.refl _ _⟩
        simp only [execOp, Act.eval, List.map_toArray, List.map_cons, List.map_nil, e58, e60, e56]
        first | rfl | (go_simp; done) | (go_simp; rfl) | (go_simp; intro h_; exfalso; omega)
      · exact wpOp_unwanted ho (unwanted_if (n := 45) (d := 56) rfl rfl e56 hq_) ⟨_, by rw [if_neg hq_], rfl, Below.refl _ _⟩
    | 51, ho, he =>
      obtain rfl : o_ = ⟨_, _, _, _, _, _⟩ := (Option.some.inj ho).symm
      obtain rfl := Option.some.inj he; clear he
      have e56 : a.tmps.getD 56 undef = .bool (b && b0 && b1 && b2 && b3 && b4 && b5) := hpre ⟨45, .data⟩ (by simp) rfl (by decide) _ rfl
      have e61 : a.tmps.getD 61 undef = if (b && b0 && b1 && b2 && b3 && b4 && b5) = true then .bool (b6) else undef := hpre ⟨50, .data⟩ (by simp) rfl (by decide) _ rfl
      clear hpre hfr
      by_cases hq_ : (b && b0 && b1 && b2 && b3 && b4 && b5) = true
      · rw [if_pos hq_] at e61
        refine wpOp_value (v := .bool (b && b0 && b1 && b2 && b3 && b4 && b5 && b6)) ho rfl ?_ ⟨_, rfl, rfl, Below.refl _ _⟩
        simp only [execOp, Act.eval, List.map_toArray, List.map_cons, List.map_nil, hq_, e56, e61]
        first | rfl | (go_simp; done) | (go_simp; rfl) | (simp [hq_]; done)
      · rw [if_neg hq_] at e61
        replace hq_ : (b && b0 && b1 && b2 && b3 && b4 && b5) = false := Bool.of_not_eq_true hq_
        refine wpOp_value (v := .bool (b && b0 && b1 && b2 && b3 && b4 && b5 && b6)) ho rfl ?_ ⟨_, rfl, rfl, Below.refl _ _⟩
        simp only [execOp, Act.eval, List.map_toArray, List.map_cons, List.map_nil, hq_, e56, e61]
        first | rfl | (go_simp; done) | (go_simp; rfl) | (simp [hq_]; done)
    | 52, ho, he => obtain rfl : o_ = ⟨_, _, _, _, _, _⟩ := (Option.some.inj ho).symm; obtain rfl := Option.some.inj he; clear he; have e62 : a.tmps.getD 62 undef = .bool (b && b0 && b1 && b2 && b3 && b4 && b5 && b6) := hpre ⟨51, .data⟩ (by simp) rfl (by decide) _ rfl; clear hpre hfr; refine wpOp_value (v := .bool (b && b0 && b1 && b2 && b3 && b4 && b5 && b6)) ho rfl ?_ ⟨_, rfl, rfl, Below.refl _ _⟩; simp only [execOp, Act.eval, List.map_toArray, List.map_cons, List.map_nil, e62]; first | rfl | (go_simp; done) | (go_simp; rfl) | (go_simp; intro h_; exfalso; omega)
    | 53, ho, he =>
      obtain rfl : o_ = ⟨_, _, _, _, _, _⟩ := (Option.some.inj ho).symm
      obtain rfl := Option.some.inj he; clear he
      have e63 : a.tmps.getD 63 undef = .bool (b && b0 && b1 && b2 && b3 && b4 && b5 && b6) := hpre ⟨52, .guard⟩ (by simp) rfl (by decide) _ rfl
      have f2 : a.tmps.getD 2 undef = .pointer (some ⟨w.heap.size, 0, none⟩) := by rw [Array.getD_eq_getD_getElem?, hfr 2 (show ¬ 2 ∈ ([11, 12, 13, 14, 15, 16, 17, 18, 19, 20, 21, 22, 23, 24, 25, 26, 27, 28, 29, 30, 31, 32, 33, 34, 35, 36, 37, 38, 39, 40, 41, 42, 43, 44, 45, 46, 47, 48, 49, 50, 51, 52, 53, 54, 55, 56, 57, 58, 59, 60, 61, 62, 63, 64, 65, 66, 67, 68, 69, 70, 71, 72, 73, 74, 75, 76, 77, 78, 79, 80, 81, 82, 83, 84, 85, 86, 87, 88, 89, 90, 4] : List Nat) by decide)]; rfl
      clear hpre hfr
      by_cases hq_ : (b && b0 && b1 && b2 && b3 && b4 && b5 && b6) = true
      · refine wpOp_value_w (v := .pointer (some ⟨w.heap.size, 7, none⟩)) ho (wanted_of (n := 52) (d := 63) rfl rfl (by rw [hs]; exact (show 63 < 91 by decide)) (e63.trans (congrArg _ hq_))) ?_ ⟨_, by rw [if_pos hq_], rfl, Below.refl _ _⟩
        simp only [execOp, Act.eval, List.map_toArray, List.map_cons, List.map_nil, e63, f2]
        first | rfl | (go_simp; done) | (go_simp; rfl) | (go_simp; intro h_; exfalso; omega)
      · exact wpOp_unwanted ho (unwanted_if (n := 52) (d := 63) rfl rfl e63 hq_) ⟨_, by rw [if_neg hq_], rfl, Below.refl _ _⟩
    | 54, ho, he =>
      obtain rfl : o_ = ⟨_, _, _, _, _, _⟩ := (Option.some.inj ho).symm
      obtain rfl := Option.some.inj he; clear he
      have e64 : a.tmps.getD 64 undef = if (b && b0 && b1 && b2 && b3 && b4 && b5 && b6) = true then .pointer (some ⟨w.heap.size, 7, none⟩) else undef := hpre ⟨53, .data⟩ (by simp) rfl (by decide) _ rfl
      have e63 : a.tmps.getD 63 undef = .bool (b && b0 && b1 && b2 && b3 && b4 && b5 && b6) := hpre ⟨52, .guard⟩ (by simp) rfl (by decide) _ rfl
      clear hpre hfr
      have k_q7 := (hbl.cell (World.block_lt_of_cell? _ _ q7)).trans q7
      by_cases hq_ : (b && b0 && b1 && b2 && b3 && b4 && b5 && b6) = true
      · rw [if_pos hq_] at e64
        refine wpOp_value_w (v := .int .i64 a0_7) ho (wanted_of (n := 52) (d := 63) rfl rfl (by rw [hs]; exact (show 63 < 91 by decide)) (e63.trans (congrArg _ hq_))) ?_ ⟨_, by rw [if_pos hq_], rfl, Below.refl _ _⟩
        simp only [execOp, Act.eval, List.map_toArray, List.map_cons, List.map_nil, e64, e63]
        first | rfl | (go_simp; done) | (go_simp; rfl) | (go_simp; intro h_; exfalso; omega)
      · exact wpOp_unwanted ho (unwanted_if (n := 52) (d := 63) rfl rfl e63 hq_) ⟨_, by rw [if_neg hq_], rfl, Below.refl _ _⟩
    | 55, ho, he =>
      obtain rfl : o_ = ⟨_, _, _, _, _, _⟩ := (Option.some.inj ho).symm
      obtain rfl := Option.some.inj he; clear he
      have e63 : a.tmps.getD 63 undef = .bool (b && b0 && b1 && b2 && b3 && b4 && b5 && b6) := hpre ⟨52, .guard⟩ (by simp) rfl (by decide) _ rfl
      have f3 : a.tmps.getD 3 undef = .pointer (some ⟨w.heap.size + 1, 0, none⟩) := by rw [Array.getD_eq_getD_getElem?, hfr 3 (show ¬ 3 ∈ ([11, 12, 13, 14, 15, 16, 17, 18, 19, 20, 21, 22, 23, 24, 25, 26, 27, 28, 29, 30, 31, 32, 33, 34, 35, 36, 37, 38, 39, 40, 41, 42, 43, 44, 45, 46, 47, 48, 49, 50, 51, 52, 53, 54, 55, 56, 57, 58, 59, 60, 61, 62, 63, 64, 65, 66, 67, 68, 69, 70, 71, 72, 73, 74, 75, 76, 77, 78, 79, 80, 81, 82, 83, 84, 85, 86, 87, 88, 89, 90, 4] : List Nat) by decide)]; rfl
      clear hpre hfr
      by_cases hq_ : (b && b0 && b1 && b2 && b3 && b4 && b5 && b6) = true
      · refine wpOp_value_w (v := .pointer (some ⟨w.heap.size + 1, 7, none⟩)) ho (wanted_of (n := 52) (d := 63) rfl rfl (by rw [hs]; exact (show 63 < 91 by decide)) (e63.trans (congrArg _ hq_))) ?_ ⟨_, by rw [if_pos hq_], rfl, Below.refl _ _⟩
        simp only [execOp, Act.eval, List.map_toArray, List.map_cons, List.map_nil, e63, f3]
        first | rfl | (go_simp; done) | (go_simp; rfl) | (go_simp; intro h_; exfalso; omega)
      · exact wpOp_unwanted ho (unwanted_if (n := 52) (d := 63) rfl rfl e63 hq_) ⟨_, by rw [if_neg hq_], rfl, Below.refl _ _⟩
    | 56, ho, he =>
      obtain rfl : o_ = ⟨_, _, _, _, _, _⟩ := (Option.some.inj ho).symm
      obtain rfl := Option.some.inj he; clear he
      have e66 : a.tmps.getD 66 undef = if (b && b0 && b1 && b2 && b3 && b4 && b5 && b6) = true then .pointer (some ⟨w.heap.size + 1, 7, none⟩) else undef := hpre ⟨55, .data⟩ (by simp) rfl (by decide) _ rfl
      have e63 : a.tmps.getD 63 undef = .bool (b && b0 && b1 && b2 && b3 && b4 && b5 && b6) := hpre ⟨52, .guard⟩ (by simp) rfl (by decide) _ rfl
      clear hpre hfr
      have k_r7 := (hbl.cell (World.block_lt_of_cell? _ _ r7)).trans r7
      by_cases hq_ : (b && b0 && b1 && b2 && b3 && b4 && b5 && b6) = true
      · rw [if_pos hq_] at e66
        refine wpOp_value_w (v := .int .i64 a1_7) ho (wanted_of (n := 52) (d := 63) rfl rfl (by rw [hs]; exact (show 63 < 91 by decide)) (e63.trans (congrArg _ hq_))) ?_ ⟨_, by rw [if_pos hq_], rfl, Below.refl _ _⟩
        simp only [execOp, Act.eval, List.map_toArray, List.map_cons, List.map_nil, e66, e63]
        first | rfl | (go_simp; done) | (go_simp; rfl) | (go_simp; intro h_; exfalso; omega)
      · exact wpOp_unwanted ho (unwanted_if (n := 52) (d := 63) rfl rfl e63 hq_) ⟨_, by rw [if_neg hq_], rfl, Below.refl _ _⟩
    | 57, ho, he =>
      obtain rfl : o_ = ⟨_, _, _, _, _, _⟩ := (Option.some.inj ho).symm
      obtain rfl := Option.some.inj he; clear he
      have e65 : a.tmps.getD 65 undef = if (b && b0 && b1 && b2 && b3 && b4 && b5 && b6) = true then .int .i64 a0_7 else undef := hpre ⟨54, .data⟩ (by simp) rfl (by decide) _ rfl
      have e67 : a.tmps.getD 67 undef = if (b && b0 && b1 && b2 && b3 && b4 && b5 && b6) = true then .int .i64 a1_7 else undef := hpre ⟨56, .data⟩ (by simp) rfl (by decide) _ rfl
      have e63 : a.tmps.getD 63 undef = .bool (b && b0 && b1 && b2 && b3 && b4 && b5 && b6) := hpre ⟨52, .guard⟩ (by simp) rfl (by decide) _ rfl
      clear hpre hfr
      by_cases hq_ : (b && b0 && b1 && b2 && b3 && b4 && b5 && b6) = true
      · rw [if_pos hq_] at e65
        rw [if_pos hq_] at e67
        refine wpOp_value_w (v := .bool (b7)) ho (wanted_of (n := 52) (d := 63) rfl rfl (by rw [hs]; exact (show 63 < 91 by decide)) (e63.trans (congrArg _ hq_))) ?_ ⟨_, by rw [if_pos hq_], rfl, Below.refl _ _⟩
        simp only [execOp, Act.eval, List.map_toArray, List.map_cons, List.map_nil, e65, e67, e63]
        first | rfl | (go_simp; done) | (go_simp; rfl) | (go_simp; intro h_; exfalso; omega)
      · exact wpOp_unwanted ho (unwanted_if (n := 52) (d := 63) rfl rfl e63 hq_) ⟨_, by rw [if_neg hq_], rfl, Below.refl _ _⟩
    | 58, ho, he =>
      obtain rfl : o_ = ⟨_, _, _, _, _, _⟩ := (Option.some.inj ho).symm
      obtain rfl := Option.some.inj he; clear he
      have e63 : a.tmps.getD 63 undef = .bool (b && b0 && b1 && b2 && b3 && b4 && b5 && b6) := hpre ⟨52, .data⟩ (by simp) rfl (by decide) _ rfl
      have e68 : a.tmps.getD 68 undef = if (b && b0 && b1 && b2 && b3 && b4 && b5 && b6) = true then .bool (b7) else undef := hpre ⟨57, .data⟩ (by simp) rfl (by decide) _ rfl
      clear hpre hfr
      by_cases hq_ : (b && b0 && b1 && b2 && b3 && b4 && b5 && b6) = true
      · rw [if_pos hq_] at e68
        refine wpOp_value (v := .bool (b && b0 && b1 && b2 && b3 && b4 && b5 && b6 && b7)) ho rfl ?_ ⟨_, rfl, rfl, Below.refl _ _⟩
        simp only [execOp, Act.eval, List.map_toArray, List.map_cons, List.map_nil, hq_, e63, e68]
        first | rfl | (go_simp; done) | (go_simp; rfl) | (simp [hq_]; done)
      · rw [if_neg hq_] at e68
        replace hq_ : (b && b0 && b1 && b2 && b3 && b4 && b5 && b6) = false := Bool.of_not_eq_true hq_
        refine wpOp_value (v := .bool (b && b0 && b1 && b2 && b3 && b4 && b5 && b6 && b7)) ho rfl ?_ ⟨_, rfl, rfl, Below.refl _ _⟩
        simp only [execOp, Act.eval, List.map_toArray, List.map_cons, List.map_nil, hq_, e63, e68]
        first | rfl | (go_simp; done) | (go_simp; rfl) | (simp [hq_]; done)
    | 59, ho, he => obtain rfl : o_ = ⟨_, _, _, _, _, _⟩ := (Option.some.inj ho).symm; obtain rfl := Option.some.inj he; clear he; have e69 : a.tmps.getD 69 undef = .bool (b && b0 && b1 && b2 && b3 && b4 && b5 && b6 && b7) := hpre ⟨58, .data⟩ (by simp) rfl (by decide) _ rfl; clear hpre hfr; refine wpOp_value (v := .bool (b && b0 && b1 && b2 && b3 && b4 && b5 && b6 && b7)) ho rfl ?_ ⟨_, rfl, rfl, Below.refl _ _⟩; simp only [execOp, Act.eval, List.map_toArray, List.map_cons, List.map_nil, e69]; first | rfl | (go_simp; done) | (go_simp; rfl) | (go_simp; intro h_; exfalso; omega)
    | 60, ho, he =>
      obtain rfl : o_ = ⟨_, _, _, _, _, _⟩ := (Option.some.inj ho).symm
      obtain rfl := Option.some.inj he; clear he
      have e70 : a.tmps.getD 70 undef = .bool (b && b0 && b1 && b2 && b3 && b4 && b5 && b6 && b7) := hpre ⟨59, .guard⟩ (by simp) rfl (by decide) _ rfl
      have f2 : a.tmps.getD 2 undef = .pointer (some ⟨w.heap.size, 0, none⟩) := by rw [Array.getD_eq_getD_getElem?, hfr 2 (show ¬ 2 ∈ ([11, 12, 13, 14, 15, 16, 17, 18, 19, 20, 21, 22, 23, 24, 25, 26, 27, 28, 29, 30, 31, 32, 33, 34, 35, 36, 37, 38, 39, 40, 41, 42, 43, 44, 45, 46, 47, 48, 49, 50, 51, 52, 53, 54, 55, 56, 57, 58, 59, 60, 61, 62, 63, 64, 65, 66, 67, 68, 69, 70, 71, 72, 73, 74, 75, 76, 77, 78, 79, 80, 81, 82, 83, 84, 85, 86, 87, 88, 89, 90, 4] : List Nat) by decide)]; rfl
      clear hpre hfr
      by_cases hq_ : (b && b0 && b1 && b2 && b3 && b4 && b5 && b6 && b7) = true
      · refine wpOp_value_w (v := .pointer (some ⟨w.heap.size, 8, none⟩)) ho (wanted_of (n := 59) (d := 70) rfl rfl (by rw [hs]; exact (show 70 < 91 by decide)) (e70.trans (congrArg _ hq_))) ?_ ⟨_, by rw [if_pos hq_], rfl, Below.refl _ _⟩
        simp only [execOp, Act.eval, List.map_toArray, List.map_cons, List.map_nil, e70, f2]
        first | rfl | (go_simp; done) | (go_simp; rfl) | (go_simp; intro h_; exfalso; omega)
      · exact wpOp_unwanted ho (unwanted_if (n := 59) (d := 70) rfl rfl e70 hq_) ⟨_, by rw [if_neg hq_], rfl, Below.refl _ _⟩
    | 61, ho, he =>
      obtain rfl : o_ = ⟨_, _, _, _, _, _⟩ := (Option.some.inj ho).symm
      obtain rfl := Option.some.inj he; clear he
      have e71 : a.tmps.getD 71 undef = if (b && b0 && b1 && b2 && b3 && b4 && b5 && b6 && b7) = true then .pointer (some ⟨w.heap.size, 8, none⟩) else undef := hpre ⟨60, .data⟩ (by simp) rfl (by decide) _ rfl
      have e70 : a.tmps.getD 70 undef = .bool (b && b0 && b1 && b2 && b3 && b4 && b5 && b6 && b7) := hpre ⟨59, .guard⟩ (by simp) rfl (by decide) _ rfl
      clear hpre hfr
      have k_q8 := (hbl.cell (World.block_lt_of_cell? _ _ q8)).trans q8
      by_cases hq_ : (b && b0 && b1 && b2 && b3 && b4 && b5 && b6 && b7) = true
      · rw [if_pos hq_] at e71
        refine wpOp_value_w (v := .int .i64 a0_8) ho (wanted_of (n := 59) (d := 70) rfl rfl (by rw [hs]; exact (show 70 < 91 by decide)) (e70.trans (congrArg _ hq_))) ?_ ⟨_, by rw [if_pos hq_], rfl, Below.refl _ _⟩
        simp only [execOp, Act.eval, List.map_toArray, List.map_cons, List.map_nil, e71, e70]
        first | rfl | (go_simp; done) | (go_simp; rfl) | (go_simp; intro h_; exfalso; omega)
      · exact wpOp_unwanted ho (unwanted_if (n := 59) (d := 70) rfl rfl e70 hq_) ⟨_, by rw [if_neg hq_], rfl, Below.refl _ _⟩
    | 62, ho, he =>
      obtain rfl : o_ = ⟨_, _, _, _, _, _⟩ := (Option.some.inj ho).symm
      obtain rfl := Option.some.inj he; clear he
      have e70 : a.tmps.getD 70 undef = .bool (b && b0 && b1 && b2 && b3 && b4 && b5 && b6 && b7) := hpre ⟨59, .guard⟩ (by simp) rfl (by decide) _ rfl
      have f3 : a.tmps.getD 3 undef = .pointer (some ⟨w.heap.size + 1, 0, none⟩) := by rw [Array.getD_eq_getD_getElem?, hfr 3 (show ¬ 3 ∈ ([11, 12, 13, 14, 15, 16, 17, 18, 19, 20, 21, 22, 23, 24, 25, 26, 27, 28, 29, 30, 31, 32, 33, 34, 35, 36, 37, 38, 39, 40, 41, 42, 43, 44, 45, 46, 47, 48, 49, 50, 51, 52, 53, 54, 55, 56, 57, 58, 59, 60, 61, 62, 63, 64, 65, 66, 67, 68, 69, 70, 71, 72, 73, 74, 75, 76, 77, 78, 79, 80, 81, 82, 83, 84, 85, 86, 87, 88, 89, 90, 4] : List Nat) by decide)]; rfl
      clear hpre hfr
      by_cases hq_ : (b && b0 && b1 && b2 && b3 && b4 && b5 && b6 && b7) = true
      · refine wpOp_value_w (v := .pointer (some ⟨w.heap.size + 1, 8, none⟩)) ho (wanted_of (n := 59) (d := 70) rfl rfl (by rw [hs]; exact (show 70 < 91 by decide)) (e70.trans (congrArg _ hq_))) ?_ ⟨_, by rw [if_pos hq_], rfl, Below.refl _ _⟩
        simp only [execOp, Act.eval, List.map_toArray, List.map_cons, List.map_nil, e70, f3]
        first | rfl | (go_simp; done) | (go_simp; rfl) | (go_simp; intro h_; exfalso; omega)
      · exact wpOp_unwanted ho (unwanted_if (n := 59) (d := 70) rfl rfl e70 hq_) ⟨_, by rw [if_neg hq_], rfl, Below.refl _ _⟩
    | 63, ho, he =>
      obtain rfl : o_ = ⟨_, _, _, _, _, _⟩ := (Option.some.inj ho).symm
      obtain rfl := Option.some.inj he; clear he
      have e73 : a.tmps.getD 73 undef = if (b && b0 && b1 && b2 && b3 && b4 && b5 && b6 && b7) = true then .pointer (some ⟨w.heap.size + 1, 8, none⟩) else undef := hpre ⟨62, .data⟩ (by simp) rfl (by decide) _ rfl
      have e70 : a.tmps.getD 70 undef = .bool (b && b0 && b1 && b2 && b3 && b4 && b5 && b6 && b7) := hpre ⟨59, .guard⟩ (by simp) rfl (by decide) _ rfl
      clear hpre hfr
      have k_r8 := (hbl.cell (World.block_lt_of_cell? _ _ r8)).trans r8
      by_cases hq_ : (b && b0 && b1 && b2 && b3 && b4 && b5 && b6 && b7) = true
      · rw [if_pos hq_] at e73
        refine wpOp_value_w (v := .int .i64 a1_8) ho (wanted_of (n := 59) (d := 70) rfl rfl (by rw [hs]; exact (show 70 < 91 by decide)) (e70.trans (congrArg _ hq_))) ?_ ⟨_, by rw [if_pos hq_], rfl, Below.refl _ _⟩
        simp only [execOp, Act.eval, List.map_toArray, List.map_cons, List.map_nil, e73, e70]
        first | rfl | (go_simp; done) | (go_simp; rfl) | (go_simp; intro h_; exfalso; omega)
      · exact wpOp_unwanted ho (unwanted_if (n := 59) (d := 70) rfl rfl e70 hq_) ⟨_, by rw [if_neg hq_], rfl, Below.refl _ _⟩
    | 64, ho, he =>
      obtain rfl : o_ = ⟨_, _, _, _, _, _⟩ := (Option.some.inj ho).symm
      obtain rfl := Option.some.inj he; clear he
      have e72 : a.tmps.getD 72 undef = if (b && b0 && b1 && b2 && b3 && b4 && b5 && b6 && b7) = true then .int .i64 a0_8 else undef := hpre ⟨61, .data⟩ (by simp) rfl (by decide) _ rfl
      have e74 : a.tmps.getD 74 undef = if (b && b0 && b1 && b2 && b3 && b4 && b5 && b6 && b7) = true then .int .i64 a1_8 else undef := hpre ⟨63, .data⟩ (by simp) rfl (by decide) _ rfl
      have e70 : a.tmps.getD 70 undef = .bool (b && b0 && b1 && b2 && b3 && b4 && b5 && b6 && b7) := hpre ⟨59, .guard⟩ (by simp) rfl (by decide) _ rfl
      clear hpre hfr
      by_cases hq_ : (b && b0 && b1 && b2 && b3 && b4 && b5 && b6 && b7) = true
      · rw [if_pos hq_] at e72
        rw [if_pos hq_] at e74
        refine wpOp_value_w (v := .bool (b8)) ho (wanted_of (n := 59) (d := 70) rfl rfl (by rw [hs]; exact (show 70 < 91 by decide)) (e70.trans (congrArg _ hq_))) ?_ ⟨_, by rw [if_pos hq_], rfl, Below.refl _ _⟩
        simp only [execOp, Act.eval, List.map_toArray, List.map_cons, List.map_nil, e72, e74, e70]
        first | rfl | (go_simp; done) | (go_simp; rfl) | (go_simp; intro h_; exfalso; omega)
      · exact wpOp_unwanted ho (unwanted_if (n := 59) (d := 70) rfl rfl e70 hq_) ⟨_, by rw [if_neg hq_], rfl, Below.refl _ _⟩
    | 65, ho, he =>
      obtain rfl : o_ = ⟨_, _, _, _, _, _⟩ := (Option.some.inj ho).symm
      obtain rfl := Option.some.inj he; clear he
      have e70 : a.tmps.getD 70 undef = .bool (b && b0 && b1 && b2 && b3 && b4 && b5 && b6 && b7) := hpre ⟨59, .data⟩ (by simp) rfl (by decide) _ rfl
      have e75 : a.tmps.getD 75 undef = if (b && b0 && b1 && b2 && b3 && b4 && b5 && b6 && b7) = true then .bool (b8) else undef := hpre ⟨64, .data⟩ (by simp) rfl (by decide) _ rfl
      clear hpre hfr
      by_cases hq_ : (b && b0 && b1 && b2 && b3 && b4 && b5 && b6 && b7) = true
      · rw [if_pos hq_] at e75
        refine wpOp_value (v := .bool (b && b0 && b1 && b2 && b3 && b4 && b5 && b6 && b7 && b8)) ho rfl ?_ ⟨_, rfl, rfl, Below.refl _ _⟩
        simp only [execOp, Act.eval, List.map_toArray, List.map_cons, List.map_nil, hq_, e70, e75]
        first | rfl | (go_simp; done) | (go_simp; rfl) | (simp [hq_]; done)
      · rw [if_neg hq_] at e75
        replace hq_ : (b && b0 && b1 && b2 && b3 && b4 && b5 && b6 && b7) = false := Bool.of_not_eq_true hq_
        refine wpOp_value (v := .bool (b && b0 && b1 && b2 && b3 && b4 && b5 && b6 && b7 && b8)) ho rfl ?_ ⟨_, rfl, rfl, Below.refl _ _⟩
        simp only [execOp, Act.eval, List.map_toArray, List.map_cons, List.map_nil, hq_, e70, e75]
        first | rfl | (go_simp; done) | (go_simp; rfl) | (simp [hq_]; done)
    | 66, ho, he => obtain rfl : o_ = ⟨_, _, _, _, _, _⟩ := (Option.some.inj ho).symm; obtain rfl := Option.some.inj he; clear he; have e76 : a.tmps.getD 76 undef = .bool (b && b0 && b1 && b2 && b3 && b4 && b5 && b6 && b7 && b8) := hpre ⟨65, .data⟩ (by simp) rfl (by decide) _ rfl; clear hpre hfr; refine wpOp_value (v := .bool (b && b0 && b1 && b2 && b3 && b4 && b5 && b6 && b7 && b8)) ho rfl ?_ ⟨_, rfl, rfl, Below.refl _ _⟩; simp only [execOp, Act.eval, List.map_toArray, List.map_cons, List.map_nil, e76]; first | rfl | (go_simp; done) | (go_simp; rfl) | (go_simp; intro h_; exfalso; omega)
    | 67, ho, he =>
      obtain rfl : o_ = ⟨_, _, _, _, _, _⟩ := (Option.some.inj ho).symm
      obtain rfl := Option.some.inj he; clear he
      have e77 : a.tmps.getD 77 undef = .bool (b && b0 && b1 && b2 && b3 && b4 && b5 && b6 && b7 && b8) := hpre ⟨66, .guard⟩ (by simp) rfl (by decide) _ rfl
      have f2 : a.tmps.getD 2 undef = .pointer (some ⟨w.heap.size, 0, none⟩) := by rw [Array.getD_eq_getD_getElem?, hfr 2 (show ¬ 2 ∈ ([11, 12, 13, 14, 15, 16, 17, 18, 19, 20, 21, 22, 23, 24, 25, 26, 27, 28, 29, 30, 31, 32, 33, 34, 35, 36, 37, 38, 39, 40, 41, 42, 43, 44, 45, 46, 47, 48, 49, 50, 51, 52, 53, 54, 55, 56, 57, 58, 59, 60, 61, 62, 63, 64, 65, 66, 67, 68, 69, 70, 71, 72, 73, 74, 75, 76, 77, 78, 79, 80, 81, 82, 83, 84, 85, 86, 87, 88, 89, 90, 4] : List Nat) by decide)]; rfl
      clear hpre hfr
      by_cases hq_ : (b && b0 && b1 && b2 && b3 && b4 && b5 && b6 && b7 && b8) = true
      · refine wpOp_value_w (v := .pointer (some ⟨w.heap.size, 9, none⟩)) ho (wanted_of (n := 66) (d := 77) rfl rfl (by rw [hs]; exact (show 77 < 91 by decide)) (e77.trans (congrArg _ hq_))) ?_ ⟨_, by rw [if_pos hq_], rfl, Below.refl _ _⟩
        simp only [execOp, Act.eval, List.map_toArray, List.map_cons, List.map_nil, e77, f2]
        first | rfl | (go_simp; done) | (go_simp; rfl) | (go_simp; intro h_; exfalso; omega)
      · exact wpOp_unwanted ho (unwanted_if (n := 66) (d := 77) rfl rfl e77 hq_) ⟨_, by rw [if_neg hq_], rfl, Below.refl _ _⟩
    | 68, ho, he =>
      obtain rfl : o_ = ⟨_, _, _, _, _, _⟩ := (Option.some.inj ho).symm
      obtain rfl := Option.some.inj he; clear he
      have e78 : a.tmps.getD 78 undef = if (b && b0 && b1 && b2 && b3 && b4 && b5 && b6 && b7 && b8) = true then .pointer (some ⟨w.heap.size, 9, none⟩) else undef := hpre ⟨67, .data⟩ (by simp) rfl (by decide) _ rfl
      have e77 : a.tmps.getD 77 undef = .bool (b && b0 && b1 && b2 && b3 && b4 && b5 && b6 && b7 && b8) := hpre ⟨66, .guard⟩ (by simp) rfl (by decide) _ rfl
      clear hpre hfr
      have k_q9 := (hbl.cell (World.block_lt_of_cell? _ _ q9)).trans q9
      by_cases hq_ : (b && b0 && b1 && b2 && b3 && b4 && b5 && b6 && b7 && b8) = true
      · rw [if_pos hq_] at e78
        refine wpOp_value_w (v := .int .i64 a0_9) ho (wanted_of (n := 66) (d := 77) rfl rfl (by rw [hs]; exact (show 77 < 91 by decide)) (e77.trans (congrArg _ hq_))) ?_ ⟨_, by rw [if_pos hq_], rfl, Below.refl _ _⟩
        simp only [execOp, Act.eval, List.map_toArray, List.map_cons, List.map_nil, e78, e77]
        first | rfl | (go_simp; done) | (go_simp; rfl) | (go_simp; intro h_; exfalso; omega)
      · exact wpOp_unwanted ho (unwanted_if (n := 66) (d := 77) rfl rfl e77 hq_) ⟨_, by rw [if_neg hq_], rfl, Below.refl _ _⟩
    | 69, ho, he =>
      obtain rfl : o_ = ⟨_, _, _, _, _, _⟩ := (Option.some.inj ho).symm
      obtain rfl := Option.some.inj he; clear he
      have e77 : a.tmps.getD 77 undef = .bool (b && b0 && b1 && b2 && b3 && b4 && b5 && b6 && b7 && b8) := hpre ⟨66, .guard⟩ (by simp) rfl (by decide) _ rfl
      have f3 : a.tmps.getD 3 undef = .pointer (some ⟨w.heap.size + 1, 0, none⟩) := by rw [Array.getD_eq_getD_getElem?, hfr 3 (show ¬ 3 ∈ ([11, 12, 13, 14, 15, 16, 17, 18, 19, 20, 21, 22, 23, 24, 25, 26, 27, 28, 29, 30, 31, 32, 33, 34, 35, 36, 37, 38, 39, 40, 41, 42, 43, 44, 45, 46, 47, 48, 49, 50, 51, 52, 53, 54, 55, 56, 57, 58, 59, 60, 61, 62, 63, 64, 65, 66, 67, 68, 69, 70, 71, 72, 73, 74, 75, 76, 77, 78, 79, 80, 81, 82, 83, 84, 85, 86, 87, 88, 89, 90, 4] : List Nat) by decide)]; rfl
      clear hpre hfr
      by_cases hq_ : (b && b0 && b1 && b2 && b3 && b4 && b5 && b6 && b7 && b8) = true
      · refine wpOp_value_w (v := .pointer (some ⟨w.heap.size + 1, 9, none⟩)) ho (wanted_of (n := 66) (d := 77) rfl rfl (by rw [hs]; exact (show 77 < 91 by decide)) (e77.trans (congrArg _ hq_))) ?_ ⟨_, by rw [if_pos hq_], rfl, Below.refl _ _⟩
        simp only [execOp, Act.eval, List.map_toArray, List.map_cons, List.map_nil, e77, f3]
        first | rfl | (go_simp; done) | (go_simp; rfl) | (go_simp; intro h_; exfalso; omega)
      · exact wpOp_unwanted ho (unwanted_if (n := 66) (d := 77) rfl rfl e77 hq_) ⟨_, by rw [if_neg hq_], rfl, Below.refl _ _⟩
    | 70, ho, he =>
      obtain rfl : o_ = ⟨_, _, _, _, _, _⟩ := (Option.some.inj ho).symm
      obtain rfl := Option.some.inj he; clear he
      have e80 : a.tmps.getD 80 undef = if (b && b0 && b1 && b2 && b3 && b4 && b5 && b6 && b7 && b8) = true then .pointer (some ⟨w.heap.size + 1, 9, none⟩) else undef := hpre ⟨69, .data⟩ (by simp) rfl (by decide) _ rfl
      have e77 : a.tmps.getD 77 undef = .bool (b && b0 && b1 && b2 && b3 && b4 && b5 && b6 && b7 && b8) := hpre ⟨66, .guard⟩ (by simp) rfl (by decide) _ rfl
      clear hpre hfr
      have k_r9 := (hbl.cell (World.block_lt_of_cell? _ _ r9)).trans r9
      by_cases hq_ : (b && b0 && b1 && b2 && b3 && b4 && b5 && b6 && b7 && b8) = true
      · rw [if_pos hq_] at e80
        refine wpOp_value_w (v := .int .i64 a1_9) ho (wanted_of (n := 66) (d := 77) rfl rfl (by rw [hs]; exact (show 77 < 91 by decide)) (e77.trans (congrArg _ hq_))) ?_ ⟨_, by rw [if_pos hq_], rfl, Below.refl _ _⟩
        simp only [execOp, Act.eval, List.map_toArray, List.map_cons, List.map_nil, e80, e77]
        first | rfl | (go_simp; done) | (go_simp; rfl) | (go_simp; intro h_; exfalso; omega)
      · exact wpOp_unwanted ho (unwanted_if (n := 66) (d := 77) rfl rfl e77 hq_) ⟨_, by rw [if_neg hq_], rfl, Below.refl _ _⟩
    | 71, ho, he =>
      obtain rfl : o_ = ⟨_, _, _, _, _, _⟩ := (Option.some.inj ho).symm
      obtain rfl := Option.some.inj he; clear he
      have e79 : a.tmps.getD 79 undef = if (b && b0 && b1 && b2 && b3 && b4 && b5 && b6 && b7 && b8) = true then .int .i64 a0_9 else undef := hpre ⟨68, .data⟩ (by simp) rfl (by decide) _ rfl
      have e81 : a.tmps.getD 81 undef = if (b && b0 && b1 && b2 && b3 && b4 && b5 && b6 && b7 && b8) = true then .int .i64 a1_9 else undef := hpre ⟨70, .data⟩ (by simp) rfl (by decide) _ rfl
      have e77 : a.tmps.getD 77 undef = .bool (b && b0 && b1 && b2 && b3 && b4 && b5 && b6 && b7 && b8) := hpre ⟨66, .guard⟩ (by simp) rfl (by decide) _ rfl
      clear hpre hfr
      by_cases hq_ : (b && b0 && b1 && b2 && b3 && b4 && b5 && b6 && b7 && b8) = true
      · rw [if_pos hq_] at e79
        rw [if_pos hq_] at e81
        refine wpOp_value_w (v := .bool (b9)) ho (wanted_of (n := 66) (d := 77) rfl rfl (by rw [hs]; exact (show 77 < 91 by decide)) (e77.trans (congrArg _ hq_))) ?_ ⟨_, by rw [if_pos hq_], rfl, Below.refl _ _⟩
        simp only [execOp, Act.eval, List.map_toArray, List.map_cons, List.map_nil, e79, e81, e77]
        first | rfl | (go_simp; done) | (go_simp; rfl) | (go_simp; intro h_; exfalso; omega)
      · exact wpOp_unwanted ho (unwanted_if (n := 66) (d := 77) rfl rfl e77 hq_) ⟨_, by rw [if_neg hq_], rfl, Below.refl _ _⟩
    | 72, ho, he =>
      obtain rfl : o_ = ⟨_, _, _, _, _, _⟩ := (Option.some.inj ho).symm
      obtain rfl := Option.some.inj he; clear he
      have e77 : a.tmps.getD 77 undef = .bool (b && b0 && b1 && b2 && b3 && b4 && b5 && b6 && b7 && b8) := hpre ⟨66, .data⟩ (by simp) rfl (by decide) _ rfl
      have e82 : a.tmps.getD 82 undef = if (b && b0 && b1 && b2 && b3 && b4 && b5 && b6 && b7 && b8) = true then .bool (b9) else undef := hpre ⟨71, .data⟩ (by simp) rfl (by decide) _ rfl
      clear hpre hfr
      by_cases hq_ : (b && b0 && b1 && b2 && b3 && b4 && b5 && b6 && b7 && b8) = true
      · rw [if_pos hq_] at e82
        refine wpOp_value (v := .bool (b && b0 && b1 && b2 && b3 && b4 && b5 && b6 && b7 && b8 && b9)) ho rfl ?_ ⟨_, rfl, rfl, Below.refl _ _⟩
        simp only [execOp, Act.eval, List.map_toArray, List.map_cons, List.map_nil, hq_, e77, e82]
        first | rfl | (go_simp; done) | (go_simp; rfl) | (simp [hq_]; done)
      · rw [if_neg hq_] at e82
        replace hq_ : (b && b0 && b1 && b2 && b3 && b4 && b5 && b6 && b7 && b8) = false := Bool.of_not_eq_true hq_
        refine wpOp_value (v := .bool (b && b0 && b1 && b2 && b3 && b4 && b5 && b6 && b7 && b8 && b9)) ho rfl ?_ ⟨_, rfl, rfl, Below.refl _ _⟩
        simp only [execOp, Act.eval, List.map_toArray, List.map_cons, List.map_nil, hq_, e77, e82]
        first | rfl | (go_simp; done) | (go_simp; rfl) | (simp [hq_]; done)
    | 73, ho, he => obtain rfl : o_ = ⟨_, _, _, _, _, _⟩ := (Option.some.inj ho).symm; obtain rfl := Option.some.inj he; clear he; have e83 : a.tmps.getD 83 undef = .bool (b && b0 && b1 && b2 && b3 && b4 && b5 && b6 && b7 && b8 && b9) := hpre ⟨72, .data⟩ (by simp) rfl (by decide) _ rfl; clear hpre hfr; refine wpOp_value (v := .bool (b && b0 && b1 && b2 && b3 && b4 && b5 && b6 && b7 && b8 && b9)) ho rfl ?_ ⟨_, rfl, rfl, Below.refl _ _⟩; simp only [execOp, Act.eval, List.map_toArray, List.map_cons, List.map_nil, e83]; first | rfl | (go_simp; done) | (go_simp; rfl) | (go_simp; intro h_; exfalso; omega)
    | 74, ho, he =>
      obtain rfl : o_ = ⟨_, _, _, _, _, _⟩ := (Option.some.inj ho).symm
      obtain rfl := Option.some.inj he; clear he
      have e84 : a.tmps.getD 84 undef = .bool (b && b0 && b1 && b2 && b3 && b4 && b5 && b6 && b7 && b8 && b9) := hpre ⟨73, .guard⟩ (by simp) rfl (by decide) _ rfl
      have f2 : a.tmps.getD 2 undef = .pointer (some ⟨w.heap.size, 0, none⟩) := by rw [Array.getD_eq_getD_getElem?, hfr 2 (show ¬ 2 ∈ ([11, 12, 13, 14, 15, 16, 17, 18, 19, 20, 21, 22, 23, 24, 25, 26, 27, 28, 29, 30, 31, 32, 33, 34, 35, 36, 37, 38, 39, 40, 41, 42, 43, 44, 45, 46, 47, 48, 49, 50, 51, 52, 53, 54, 55, 56, 57, 58, 59, 60, 61, 62, 63, 64, 65, 66, 67, 68, 69, 70, 71, 72, 73, 74, 75, 76, 77, 78, 79, 80, 81, 82, 83, 84, 85, 86, 87, 88, 89, 90, 4] : List Nat) by decide)]; rfl
      clear hpre hfr
      by_cases hq_ : (b && b0 && b1 && b2 && b3 && b4 && b5 && b6 && b7 && b8 && b9) = true
      · refine wpOp_value_w (v := .pointer (some ⟨w.heap.size, 10, none⟩)) ho (wanted_of (n := 73) (d := 84) rfl rfl (by rw [hs]; exact (show 84 < 91 by decide)) (e84.trans (congrArg _ hq_))) ?_ ⟨_, by rw [if_pos hq_], rfl, Below.refl _ _⟩
        simp only [execOp, Act.eval, List.map_toArray, List.map_cons, List.map_nil, e84, f2]
        first | rfl | (go_simp; done) | (go_simp; rfl) | (go_simp; intro h_; exfalso; omega)
      · exact wpOp_unwanted ho (unwanted_if (n := 73) (d := 84) rfl rfl e84 hq_) ⟨_, by rw [if_neg hq_], rfl, Below.refl _ _⟩
    | 75, ho, he =>
      obtain rfl : o_ = ⟨_, _, _, _, _, _⟩ := (Option.some.inj ho).symm
      obtain rfl := Option.some.inj he; clear he
      have e85 : a.tmps.getD 85 undef = if (b && b0 && b1 && b2 && b3 && b4 && b5 && b6 && b7 && b8 && b9) = true then .pointer (some ⟨w.heap.size, 10, none⟩) else undef := hpre ⟨74, .data⟩ (by simp) rfl (by decide) _ rfl
      have e84 : a.tmps.getD 84 undef = .bool (b && b0 && b1 && b2 && b3 && b4 && b5 && b6 && b7 && b8 && b9) := hpre ⟨73, .guard⟩ (by simp) rfl (by decide) _ rfl
      clear hpre hfr
      have k_q10 := (hbl.cell (World.block_lt_of_cell? _ _ q10)).trans q10
      by_cases hq_ : (b && b0 && b1 && b2 && b3 && b4 && b5 && b6 && b7 && b8 && b9) = true
      · rw [if_pos hq_] at e85
        refine wpOp_value_w (v := .int .i64 a0_10) ho (wanted_of (n := 73) (d := 84) rfl rfl (by rw [hs]; exact (show 84 < 91 by decide)) (e84.trans (congrArg _ hq_))) ?_ ⟨_, by rw [if_pos hq_], rfl, Below.refl _ _⟩
        simp only [execOp, Act.eval, List.map_toArray, List.map_cons, List.map_nil, e85, e84]
        first | rfl | (go_simp; done) | (go_simp; rfl) | (go_simp; intro h_; exfalso; omega)
      · exact wpOp_unwanted ho (unwanted_if (n := 73) (d := 84) rfl rfl e84 hq_) ⟨_, by rw [if_neg hq_], rfl, Below.refl _ _⟩
    | 76, ho, he =>
      obtain rfl : o_ = ⟨_, _, _, _, _, _⟩ := (Option.some.inj ho).symm
      obtain rfl := Option.some.inj he; clear he
      have e84 : a.tmps.getD 84 undef = .bool (b && b0 && b1 && b2 && b3 && b4 && b5 && b6 && b7 && b8 && b9) := hpre ⟨73, .guard⟩ (by simp) rfl (by decide) _ rfl
      have f3 : a.tmps.getD 3 undef = .pointer (some ⟨w.heap.size + 1, 0, none⟩) := by rw [Array.getD_eq_getD_getElem?, hfr 3 (show ¬ 3 ∈ ([11, 12, 13, 14, 15, 16, 17, 18, 19, 20, 21, 22, 23, 24, 25, 26, 27, 28, 29, 30, 31, 32, 33, 34, 35, 36, 37, 38, 39, 40, 41, 42, 43, 44, 45, 46, 47, 48, 49, 50, 51, 52, 53, 54, 55, 56, 57, 58, 59, 60, 61, 62, 63, 64, 65, 66, 67, 68, 69, 70, 71, 72, 73, 74, 75, 76, 77, 78, 79, 80, 81, 82, 83, 84, 85, 86, 87, 88, 89, 90, 4] : List Nat) by decide)]; rfl
      clear hpre hfr
      by_cases hq_ : (b && b0 && b1 && b2 && b3 && b4 && b5 && b6 && b7 && b8 && b9) = true
      · refine wpOp_value_w (v := .pointer (some ⟨w.heap.size + 1, 10, none⟩)) ho (wanted_of (n := 73) (d := 84) rfl rfl (by rw [hs]; exact (show 84 < 91 by decide)) (e84.trans (congrArg _ hq_))) ?_ ⟨_, by rw [if_pos hq_], rfl, Below.refl _ _⟩
        simp only [execOp, Act.eval, List.map_toArray, List.map_cons, List.map_nil, e84, f3]
        first | rfl | (go_simp; done) | (go_simp; rfl) | (go_simp; intro h_; exfalso; omega)
      · exact wpOp_unwanted ho (unwanted_if (n := 73) (d := 84) rfl rfl e84 hq_) ⟨_, by rw [if_neg hq_], rfl, Below.refl _ _⟩
    | 77, ho, he =>
      obtain rfl : o_ = ⟨_, _, _, _, _, _⟩ := (Option.some.inj ho).symm
      obtain rfl := Option.some.inj he; clear he
      have e87 : a.tmps.getD 87 undef = if (b && b0 && b1 && b2 && b3 && b4 && b5 && b6 && b7 && b8 && b9) = true then .pointer (some ⟨w.heap.size + 1, 10, none⟩) else undef := hpre ⟨76, .data⟩ (by simp) rfl (by decide) _ rfl
      have e84 : a.tmps.getD 84 undef = .bool (b && b0 && b1 && b2 && b3 && b4 && b5 && b6 && b7 && b8 && b9) := hpre ⟨73, .guard⟩ (by simp) rfl (by decide) _ rfl
      clear hpre hfr
      have k_r10 := (hbl.cell (World.block_lt_of_cell? _ _ r10)).trans r10
      by_cases hq_ : (b && b0 && b1 && b2 && b3 && b4 && b5 && b6 && b7 && b8 && b9) = true
      · rw [if_pos hq_] at e87
        refine wpOp_value_w (v := .int .i64 a1_10) ho (wanted_of (n := 73) (d := 84) rfl rfl (by rw [hs]; exact (show 84 < 91 by decide)) (e84.trans (congrArg _ hq_))) ?_ ⟨_, by rw [if_pos hq_], rfl, Below.refl _ _⟩
        simp only [execOp, Act.eval, List.map_toArray, List.map_cons, List.map_nil, e87, e84]
        first | rfl | (go_simp; done) | (go_simp; rfl) | (go_simp; intro h_; exfalso; omega)
      · exact wpOp_unwanted ho (unwanted_if (n := 73) (d := 84) rfl rfl e84 hq_) ⟨_, by rw [if_neg hq_], rfl, Below.refl _ _⟩
    | 78, ho, he =>
      obtain rfl : o_ = ⟨_, _, _, _, _, _⟩ := (Option.some.inj ho).symm
      obtain rfl := Option.some.inj he; clear he
      have e86 : a.tmps.getD 86 undef = if (b && b0 && b1 && b2 && b3 && b4 && b5 && b6 && b7 && b8 && b9) = true then .int .i64 a0_10 else undef := hpre ⟨75, .data⟩ (by simp) rfl (by decide) _ rfl
      have e88 : a.tmps.getD 88 undef = if (b && b0 && b1 && b2 && b3 && b4 && b5 && b6 && b7 && b8 && b9) = true then .int .i64 a1_10 else undef := hpre ⟨77, .data⟩ (by simp) rfl (by decide) _ rfl
      have e84 : a.tmps.getD 84 undef = .bool (b && b0 && b1 && b2 && b3 && b4 && b5 && b6 && b7 && b8 && b9) := hpre ⟨73, .guard⟩ (by simp) rfl (by decide) _ rfl
      clear hpre hfr
      by_cases hq_ : (b && b0 && b1 && b2 && b3 && b4 && b5 && b6 && b7 && b8 && b9) = true
      · rw [if_pos hq_] at e86
        rw [if_pos hq_] at e88
        refine wpOp_value_w (v := .bool (b10)) ho (wanted_of (n := 73) (d := 84) rfl rfl (by rw [hs]; exact (show 84 < 91 by decide)) (e84.trans (congrArg _ hq_))) ?_ ⟨_, by rw [if_pos hq_], rfl, Below.refl _ _⟩
        simp only [execOp, Act.eval, List.map_toArray, List.map_cons, List.map_nil, e86, e88, e84]
        first | rfl | (go_simp; done) | (go_simp; rfl) | (go_simp; intro h_; exfalso; omega)
      · exact wpOp_unwanted ho (unwanted_if (n := 73) (d := 84) rfl rfl e84 hq_) ⟨_, by rw [if_neg hq_], rfl, Below.refl _ _⟩
    | 79, ho, he =>
      obtain rfl : o_ = ⟨_, _, _, _, _, _⟩ := (Option.some.inj ho).symm
      obtain rfl := Option.some.inj he; clear he
      have e84 : a.tmps.getD 84 undef = .bool (b && b0 && b1 && b2 && b3 && b4 && b5 && b6 && b7 && b8 && b9) := hpre ⟨73, .data⟩ (by simp) rfl (by decide) _ rfl
      have e89 : a.tmps.getD 89 undef = if (b && b0 && b1 && b2 && b3 && b4 && b5 && b6 && b7 && b8 && b9) = true then .bool (b10) else undef := hpre ⟨78, .data⟩ (by simp) rfl (by decide) _ rfl
      clear hpre hfr
      by_cases hq_ : (b && b0 && b1 && b2 && b3 && b4 && b5 && b6 && b7 && b8 && b9) = true
      · rw [if_pos hq_] at e89
        refine wpOp_value (v := .bool (b && b0 && b1 && b2 && b3 && b4 && b5 && b6 && b7 && b8 && b9 && b10)) ho rfl ?_ ⟨_, rfl, rfl, Below.refl _ _⟩
        simp only [execOp, Act.eval, List.map_toArray, List.map_cons, List.map_nil, hq_, e84, e89]
        first | rfl | (go_simp; done) | (go_simp; rfl) | (simp [hq_]; done)
      · rw [if_neg hq_] at e89
        replace hq_ : (b && b0 && b1 && b2 && b3 && b4 && b5 && b6 && b7 && b8 && b9) = false := Bool.of_not_eq_true hq_
        refine wpOp_value (v := .bool (b && b0 && b1 && b2 && b3 && b4 && b5 && b6 && b7 && b8 && b9 && b10)) ho rfl ?_ ⟨_, rfl, rfl, Below.refl _ _⟩
        simp only [execOp, Act.eval, List.map_toArray, List.map_cons, List.map_nil, hq_, e84, e89]
        first | rfl | (go_simp; done) | (go_simp; rfl) | (simp [hq_]; done)
    | 80, ho, he => obtain rfl : o_ = ⟨_, _, _, _, _, _⟩ := (Option.some.inj ho).symm; obtain rfl := Option.some.inj he; clear he; have e90 : a.tmps.getD 90 undef = .bool (b && b0 && b1 && b2 && b3 && b4 && b5 && b6 && b7 && b8 && b9 && b10) := hpre ⟨79, .data⟩ (by simp) rfl (by decide) _ rfl; clear hpre hfr; refine wpOp_value (v := .bool (b && b0 && b1 && b2 && b3 && b4 && b5 && b6 && b7 && b8 && b9 && b10)) ho rfl ?_ ⟨_, rfl, rfl, Below.refl _ _⟩; simp only [execOp, Act.eval, List.map_toArray, List.map_cons, List.map_nil, e90]; first | rfl | (go_simp; done) | (go_simp; rfl) | (go_simp; intro h_; exfalso; omega)
    | n_ + 81, ho, he => simp at he
  case fin =>
    intro xv_ w1_ hbl hx
    simp only [List.forall_mem_cons] at hx
    obtain ⟨x11, x12, x13, x14, x15, x16, x17, x18, x19, x20, x21, x22, x23, x24, x25, x26, x27, x28, x29, x30, x31, x32, x33, x34, x35, x36, x37, x38, x39, x40, x41, x42, x43, x44, x45, x46, x47, x48, x49, x50, x51, x52, x53, x54, x55, x56, x57, x58, x59, x60, x61, x62, x63, x64, x65, x66, x67, x68, x69, x70, x71, x72, x73, x74, x75, x76, x77, x78, x79, x80, x81, x82, x83, x84, x85, x86, x87, x88, x89, x90, x4, _⟩ := hx
    simp only [List.map_cons, List.map_nil, putL, Act.put, List.setIfInBounds_toArray, List.set_cons_zero, List.set_cons_succ, x11, x12, x13, x14, x20, x21, x27, x28, x34, x35, x41, x42, x48, x49, x55, x56, x62, x63, x69, x70, x76, x77, x83, x84, x90, x4]
    clear x11 x12 x13 x14 x15 x16 x17 x18 x19 x20 x21 x22 x23 x24 x25 x26 x27 x28 x29 x30 x31 x32 x33 x34 x35 x36 x37 x38 x39 x40 x41 x42 x43 x44 x45 x46 x47 x48 x49 x50 x51 x52 x53 x54 x55 x56 x57 x58 x59 x60 x61 x62 x63 x64 x65 x66 x67 x68 x69 x70 x71 x72 x73 x74 x75 x76 x77 x78 x79 x80 x81 x82 x83 x84 x85 x86 x87 x88 x89 x90 x4
    have HB2 := Aside0.mk (below_then HBW.out HBW.out.size hbl)
    obtain ⟨C, hC⟩ : ∃ C, C = (b && b0 && b1 && b2 && b3 && b4 && b5 && b6 && b7 && b8 && b9 && b10) := ⟨_, rfl⟩
    rw [← hC]
    have HCC := Aside0.mk hC
    clear hC hbl
    go_wp2_with fail
    go_ret
    exact ⟨congrArg (fun b => Ending.returned (.bool b)) HCC.out, HB2.out⟩
end Go.Proofs.Ytkddlhcpplkpbaa.G
end
