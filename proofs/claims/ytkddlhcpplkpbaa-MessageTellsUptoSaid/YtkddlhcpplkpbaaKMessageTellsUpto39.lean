/- MessageTellsUpto: texts of this claim, packed: what the kit's print has written for it and own texts, without what its proof does not reach. -/
import Derived.Test.YtkddlhcpplkpbaaKMessageTellsUpto15
import Derived.Test.YtkddlhcpplkpbaaKMessageTellsUpto16
import Derived.Test.YtkddlhcpplkpbaaKMessageTellsUpto19
import Derived.Test.YtkddlhcpplkpbaaKMessageTellsUpto21
import Derived.Test.YtkddlhcpplkpbaaKMessageTellsUpto22
import Derived.Test.YtkddlhcpplkpbaaKMessageTellsUpto24
import Derived.Test.YtkddlhcpplkpbaaKMessageTellsUpto25
import Derived.Test.YtkddlhcpplkpbaaKMessageTellsUpto27
import Derived.Test.YtkddlhcpplkpbaaKMessageTellsUpto28
import Derived.Test.YtkddlhcpplkpbaaKMessageTellsUpto30
import Derived.Test.YtkddlhcpplkpbaaKMessageTellsUpto32
import Derived.Test.YtkddlhcpplkpbaaKMessageTellsUpto33
import Derived.Test.YtkddlhcpplkpbaaKMessageTellsUpto34
import Derived.Test.YtkddlhcpplkpbaaKMessageTellsUpto37
import Derived.Test.YtkddlhcpplkpbaaKMessageTellsUpto38
set_option linter.unusedVariables false
set_option linter.unusedSimpArgs false
set_option linter.unusedSectionVars false
section
namespace Go.Proofs.Ytkddlhcpplkpbaa.G
open WB Go.RowKit Go.Proofs.YtkddlhcpplkpbaaW.PrintWords Go.Proofs.YtkddlhcpplkpbaaW.PrintLast Go.Proofs.YtkddlhcpplkpbaaW.PrintMore
attribute [local go_sem] max2_int min2_int max_two min_two max_three min_three max_four min_four   -- for this text's walks alone
theorem sameB_self (l : List Int) : waybillplain_SameBytes.f l l = some true := by unfold waybillplain_SameBytes.f; simp
theorem sameM_self (a0_0 a0_1 a0_2 a0_3 a0_4 a0_5 a0_6 a0_7 a0_8 a0_9 a0_10 : Int) (l : List Int) : waybillplain_SameMsg.f a0_0 a0_1 a0_2 a0_3 a0_4 a0_5 a0_6 a0_7 a0_8 a0_9 a0_10 l a0_0 a0_1 a0_2 a0_3 a0_4 a0_5 a0_6 a0_7 a0_8 a0_9 a0_10 l = some true := by unfold waybillplain_SameMsg.f; rw [sameB_self]; simp
noncomputable section
open Classical in
/-- What the law asks, where all that is told is as the page says; none where it is not. -/
def waybilllaw09_MessageTells.g (k : Nat) (a0_0 a0_1 a0_2 a0_3 a0_4 a0_5 a0_6 a0_7 a0_8 a0_9 a0_10 : Int) (l0_11 : List Int) (a1_0 a1_1 a1_2 a1_3 a1_4 a1_5 a1_6 a1_7 a1_8 a1_9 a1_10 : Int) (l1_11 l2 : List Int) : Option Bool := (waybillplain_CopyBytes.f l2).bind fun b => (message_Encode.f k a0_0 a0_1 a0_2 a0_3 a0_4 a0_5 a0_6 a0_7 a0_8 a0_9 a0_10 l0_11).bind fun r => if waybillref09_Encode.f k a0_0 a0_1 a0_2 a0_3 a0_4 a0_5 a0_6 a0_7 a0_8 a0_9 a0_10 l0_11 = some r then (message_Decode.f k b).bind fun d => if waybillref09_Decode.f k l2 = some d then (message_Frames.f k [(⟨a0_0, a0_1, a0_2, a0_3, a0_4, a0_5, a0_6, a0_7, a0_8, a0_9, a0_10, l0_11⟩ : S25), (⟨a1_0, a1_1, a1_2, a1_3, a1_4, a1_5, a1_6, a1_7, a1_8, a1_9, a1_10, l1_11⟩ : S25)]).bind fun f => if waybillref09_Frames.f k [(⟨a0_0, a0_1, a0_2, a0_3, a0_4, a0_5, a0_6, a0_7, a0_8, a0_9, a0_10, l0_11⟩ : S25), (⟨a1_0, a1_1, a1_2, a1_3, a1_4, a1_5, a1_6, a1_7, a1_8, a1_9, a1_10, l1_11⟩ : S25)] = some f then (message_Read.f k b).bind fun m => (waybillref09_Read.f k l2).bind fun n => (waybillplain_SameMsgs.f k m.1 n.1).bind fun s => if s = true ∧ m.2 = n.2 then (message_Check.f k a0_0 a0_1 a0_2 a0_3 a0_4 a0_5 a0_6 a0_7 a0_8 a0_9 a0_10 l0_11).bind fun c => if waybillref09_Check.f a0_0 a0_1 a0_2 a0_3 a0_4 a0_5 a0_6 a0_7 a0_8 a0_9 a0_10 l0_11 = some c then (message_Back.f k a0_0 a0_1 a0_2 a0_3 a0_4 a0_5 a0_6 a0_7 a0_8 a0_9 a0_10 l0_11).bind fun q => if waybillref09_Back.f k a0_0 a0_1 a0_2 a0_3 a0_4 a0_5 a0_6 a0_7 a0_8 a0_9 a0_10 l0_11 = some q ∧ b = l2 then waybilllaw09_alive.f k else none else none else none else none else none else none
def waybilllaw09_MessageTells.f (k : Nat) (a0_0 : Int) (a0_1 : Int) (a0_2 : Int) (a0_3 : Int) (a0_4 : Int) (a0_5 : Int) (a0_6 : Int) (a0_7 : Int) (a0_8 : Int) (a0_9 : Int) (a0_10 : Int) (l0_11 : List Int) (a1_0 : Int) (a1_1 : Int) (a1_2 : Int) (a1_3 : Int) (a1_4 : Int) (a1_5 : Int) (a1_6 : Int) (a1_7 : Int) (a1_8 : Int) (a1_9 : Int) (a1_10 : Int) (l1_11 : List Int) (l2 : List Int) : Option (Bool) := waybilllaw09_MessageTells.g k a0_0 a0_1 a0_2 a0_3 a0_4 a0_5 a0_6 a0_7 a0_8 a0_9 a0_10 l0_11 a1_0 a1_1 a1_2 a1_3 a1_4 a1_5 a1_6 a1_7 a1_8 a1_9 a1_10 l1_11 l2
end
set_option maxHeartbeats 8000000 in
set_option maxRecDepth 100000 in
theorem waybilllaw09_MessageTells.calls (k : Nat) (a0_0 : Int) (a0_1 : Int) (a0_2 : Int) (a0_3 : Int) (a0_4 : Int) (a0_5 : Int) (a0_6 : Int) (a0_7 : Int) (a0_8 : Int) (a0_9 : Int) (a0_10 : Int) (A0_11 : Option Addr) (c0_11 : Nat) (l0_11 : List Int) (a1_0 : Int) (a1_1 : Int) (a1_2 : Int) (a1_3 : Int) (a1_4 : Int) (a1_5 : Int) (a1_6 : Int) (a1_7 : Int) (a1_8 : Int) (a1_9 : Int) (a1_10 : Int) (A1_11 : Option Addr) (c1_11 : Nat) (l1_11 : List Int) (A2 : Option Addr) (c2 : Nat) (l2 : List Int) (r : Bool) (w : World) (hr0_11 : Kd.C (Kd.int .u8) w A0_11 l0_11.length l0_11) (hc0_11 : l0_11.length ≤ c0_11) (hr1_11 : Kd.C (Kd.int .u8) w A1_11 l1_11.length l1_11) (hc1_11 : l1_11.length ≤ c1_11) (hr2 : Kd.C (Kd.int .u8) w A2 l2.length l2) (hc2 : l2.length ≤ c2) (h : waybilllaw09_MessageTells.f k a0_0 a0_1 a0_2 a0_3 a0_4 a0_5 a0_6 a0_7 a0_8 a0_9 a0_10 l0_11 a1_0 a1_1 a1_2 a1_3 a1_4 a1_5 a1_6 a1_7 a1_8 a1_9 a1_10 l1_11 l2 = some r) (hrt : r = true) :
  Calls Try.prog 8 #[.agg #[.int .i64 a0_0, .int .i64 a0_1, .int .i64 a0_2, .int .i64 a0_3, .int .i64 a0_4, .int .i64 a0_5, .int .i64 a0_6, .int .i64 a0_7, .int .i64 a0_8, .int .i64 a0_9, .int .i64 a0_10, .slice A0_11 l0_11.length c0_11], .agg #[.int .i64 a1_0, .int .i64 a1_1, .int .i64 a1_2, .int .i64 a1_3, .int .i64 a1_4, .int .i64 a1_5, .int .i64 a1_6, .int .i64 a1_7, .int .i64 a1_8, .int .i64 a1_9, .int .i64 a1_10, .slice A1_11 l1_11.length c1_11], .slice A2 l2.length c2] w fun e w' => e = .returned (.bool r) ∧ Below w.heap.size w w' := by
 subst hrt
 unfold waybilllaw09_MessageTells.f waybilllaw09_MessageTells.g at h
 have HR0 := Aside0.mk hr0_11
 have HC0 := Aside0.mk hc0_11
 have HR1 := Aside0.mk hr1_11
 have HC1 := Aside0.mk hc1_11
 have HR2 := Aside0.mk hr2
 have HC2 := Aside0.mk hc2
 obtain ⟨b, h1, h⟩ := Option.bind_eq_some_iff.1 h
 obtain ⟨⟨r1, r2⟩, h2, h⟩ := Option.bind_eq_some_iff.1 h
 split at h
 case isFalse => cases h
 rename_i h3
 obtain ⟨⟨d0, d1, d2, d3, d4, d5, d6, d7, d8, d9, d10, d11, d12⟩, h4, h⟩ := Option.bind_eq_some_iff.1 h
 split at h
 case isFalse => cases h
 rename_i h5
 obtain ⟨⟨f1, f2⟩, h6, h⟩ := Option.bind_eq_some_iff.1 h
 split at h
 case isFalse => cases h
 rename_i h7
 obtain ⟨⟨m1, m2⟩, h8, h⟩ := Option.bind_eq_some_iff.1 h
 obtain ⟨⟨n1, n2⟩, h9, h⟩ := Option.bind_eq_some_iff.1 h
 obtain ⟨s, h10, h⟩ := Option.bind_eq_some_iff.1 h
 split at h
 case isFalse => cases h
 rename_i hsm
 have hs := hsm.1
 have hmn := hsm.2
 dsimp only at hmn
 obtain ⟨c, h11, h⟩ := Option.bind_eq_some_iff.1 h
 split at h
 case isFalse => cases h
 rename_i h12
 obtain ⟨q, h13, h⟩ := Option.bind_eq_some_iff.1 h
 split at h
 case isFalse => cases h
 rename_i h14
 have hbl := h14.2
 have h14 := h14.1
 have H1 := Aside0.mk h1; have H2 := Aside0.mk h2; have H3 := Aside0.mk h3; have H4 := Aside0.mk h4; have H5 := Aside0.mk h5; have H6 := Aside0.mk h6; have H7 := Aside0.mk h7; have H8 := Aside0.mk h8; have H9 := Aside0.mk h9; have H10 := Aside0.mk h10; have H11 := Aside0.mk h11; have H12 := Aside0.mk h12; have H13 := Aside0.mk h13; have H14 := Aside0.mk h14; have H15 := Aside0.mk h
 clear hsm hr0_11 hc0_11 hr1_11 hc1_11 hr2 hc2 h1 h2 h3 h4 h5 h6 h7 h8 h9 h10 h11 h12 h13 h14 h
 subst hs hmn hbl
 go_enter Try.func8, Try.ntmps8
 go_wp2_with fail
 go_at_call 16
 obtain ⟨W0, hW0⟩ : ∃ W, W = (w.alloc (.cells #[.int .i64 a0_0, .int .i64 a0_1, .int .i64 a0_2, .int .i64 a0_3, .int .i64 a0_4, .int .i64 a0_5, .int .i64 a0_6, .int .i64 a0_7, .int .i64 a0_8, .int .i64 a0_9, .int .i64 a0_10, .slice A0_11 l0_11.length c0_11] 25)).alloc (.cells #[.int .i64 a1_0, .int .i64 a1_1, .int .i64 a1_2, .int .i64 a1_3, .int .i64 a1_4, .int .i64 a1_5, .int .i64 a1_6, .int .i64 a1_7, .int .i64 a1_8, .int .i64 a1_9, .int .i64 a1_10, .slice A1_11 l1_11.length c1_11] 25) := ⟨_, rfl⟩
 rw [← hW0]
 have BA := Aside0.mk (show W0.heap[w.heap.size]? = some (.cells #[.int .i64 a0_0, .int .i64 a0_1, .int .i64 a0_2, .int .i64 a0_3, .int .i64 a0_4, .int .i64 a0_5, .int .i64 a0_6, .int .i64 a0_7, .int .i64 a0_8, .int .i64 a0_9, .int .i64 a0_10, .slice A0_11 l0_11.length c0_11] 25 (0, 0)) by rw [hW0]; exact blk_alloc (heap_new1 _ _) _)
 have BB := Aside0.mk (show W0.heap[w.heap.size + 1]? = some (.cells #[.int .i64 a1_0, .int .i64 a1_1, .int .i64 a1_2, .int .i64 a1_3, .int .i64 a1_4, .int .i64 a1_5, .int .i64 a1_6, .int .i64 a1_7, .int .i64 a1_8, .int .i64 a1_9, .int .i64 a1_10, .slice A1_11 l1_11.length c1_11] 25 (0, 0)) by rw [hW0]; exact heap_new2 _ _ _)
 have HB := Aside0.mk (show Below w.heap.size w W0 by rw [hW0]; exact below_alloc (below_alloc (Below.refl _ _) _) _)
 clear hW0
 go_at_call 16
 with_reducible refine (waybillplain_CopyBytes.calls A2 c2 b b _ (Kd.C_below HR2.out HB.out) HC2.out H1.out).mono ?_
 rintro e w1 ⟨v1, rfl, hr, hb⟩
 replace BA := Aside0.mk (blk_below BA.out hb)
 replace BB := Aside0.mk (blk_below BB.out hb)
 replace HB := Aside0.mk (below_then HB.out HB.out.size hb)
 obtain ⟨Ab, cb, rfl⟩ := Kd.R_slice hr
 have LB := Aside0.mk (Kd.R_reads' hr).2.1
 have RB := Aside0.mk (Kd.R_reads' hr).2.2
 clear hb hr
 have q0 : w1.cell? ⟨w.heap.size, 0, none⟩ = some (.int .i64 a0_0) := (blk_cell BA.out 0).trans rfl
 have q1 : w1.cell? ⟨w.heap.size, 1, none⟩ = some (.int .i64 a0_1) := (blk_cell BA.out 1).trans rfl
 have q2 : w1.cell? ⟨w.heap.size, 2, none⟩ = some (.int .i64 a0_2) := (blk_cell BA.out 2).trans rfl
 have q3 : w1.cell? ⟨w.heap.size, 3, none⟩ = some (.int .i64 a0_3) := (blk_cell BA.out 3).trans rfl
 have q4 : w1.cell? ⟨w.heap.size, 4, none⟩ = some (.int .i64 a0_4) := (blk_cell BA.out 4).trans rfl
 have q5 : w1.cell? ⟨w.heap.size, 5, none⟩ = some (.int .i64 a0_5) := (blk_cell BA.out 5).trans rfl
 have q6 : w1.cell? ⟨w.heap.size, 6, none⟩ = some (.int .i64 a0_6) := (blk_cell BA.out 6).trans rfl
 have q7 : w1.cell? ⟨w.heap.size, 7, none⟩ = some (.int .i64 a0_7) := (blk_cell BA.out 7).trans rfl
 have q8 : w1.cell? ⟨w.heap.size, 8, none⟩ = some (.int .i64 a0_8) := (blk_cell BA.out 8).trans rfl
 have q9 : w1.cell? ⟨w.heap.size, 9, none⟩ = some (.int .i64 a0_9) := (blk_cell BA.out 9).trans rfl
 have q10 : w1.cell? ⟨w.heap.size, 10, none⟩ = some (.int .i64 a0_10) := (blk_cell BA.out 10).trans rfl
 have q11 : w1.cell? ⟨w.heap.size, 11, none⟩ = some (.slice A0_11 l0_11.length c0_11) := (blk_cell BA.out 11).trans rfl
 go_wp2_with fail
 go_at_call 13
 with_reducible refine (message_Encode.calls k a0_0 a0_1 a0_2 a0_3 a0_4 a0_5 a0_6 a0_7 a0_8 a0_9 a0_10 A0_11 c0_11 l0_11 r1 r2 _ (Kd.C_below HR0.out HB.out) HC0.out H2.out).mono ?_
 rintro e w2 ⟨v1, rfl, hr, hb⟩
 replace BA := Aside0.mk (blk_below BA.out hb)
 replace BB := Aside0.mk (blk_below BB.out hb)
 replace RB := Aside0.mk (Kd.C_below RB.out hb)
 replace HB := Aside0.mk (below_then HB.out HB.out.size hb)
 obtain ⟨Ar, cr, rfl⟩ := Kd.R_slice hr
 have LR := Aside0.mk (Kd.R_reads' hr).2.1
 have RR := Aside0.mk (Kd.R_reads' hr).2.2
 clear hb hr q0 q1 q2 q3 q4 q5 q6 q7 q8 q9 q10 q11
 have q0 : w2.cell? ⟨w.heap.size, 0, none⟩ = some (.int .i64 a0_0) := (blk_cell BA.out 0).trans rfl
 have q1 : w2.cell? ⟨w.heap.size, 1, none⟩ = some (.int .i64 a0_1) := (blk_cell BA.out 1).trans rfl
 have q2 : w2.cell? ⟨w.heap.size, 2, none⟩ = some (.int .i64 a0_2) := (blk_cell BA.out 2).trans rfl
 have q3 : w2.cell? ⟨w.heap.size, 3, none⟩ = some (.int .i64 a0_3) := (blk_cell BA.out 3).trans rfl
 have q4 : w2.cell? ⟨w.heap.size, 4, none⟩ = some (.int .i64 a0_4) := (blk_cell BA.out 4).trans rfl
 have q5 : w2.cell? ⟨w.heap.size, 5, none⟩ = some (.int .i64 a0_5) := (blk_cell BA.out 5).trans rfl
 have q6 : w2.cell? ⟨w.heap.size, 6, none⟩ = some (.int .i64 a0_6) := (blk_cell BA.out 6).trans rfl
 have q7 : w2.cell? ⟨w.heap.size, 7, none⟩ = some (.int .i64 a0_7) := (blk_cell BA.out 7).trans rfl
 have q8 : w2.cell? ⟨w.heap.size, 8, none⟩ = some (.int .i64 a0_8) := (blk_cell BA.out 8).trans rfl
 have q9 : w2.cell? ⟨w.heap.size, 9, none⟩ = some (.int .i64 a0_9) := (blk_cell BA.out 9).trans rfl
 have q10 : w2.cell? ⟨w.heap.size, 10, none⟩ = some (.int .i64 a0_10) := (blk_cell BA.out 10).trans rfl
 have q11 : w2.cell? ⟨w.heap.size, 11, none⟩ = some (.slice A0_11 l0_11.length c0_11) := (blk_cell BA.out 11).trans rfl
 go_wp2_with fail
 go_at_call 19
 with_reducible refine (waybillref09_Encode.calls k a0_0 a0_1 a0_2 a0_3 a0_4 a0_5 a0_6 a0_7 a0_8 a0_9 a0_10 A0_11 c0_11 l0_11 r1 r2 _ (Kd.C_below HR0.out HB.out) HC0.out H3.out).mono ?_
 rintro e w3 ⟨v1, rfl, hr, hb⟩
 replace BA := Aside0.mk (blk_below BA.out hb)
 replace BB := Aside0.mk (blk_below BB.out hb)
 replace RB := Aside0.mk (Kd.C_below RB.out hb)
 replace RR := Aside0.mk (Kd.C_below RR.out hb)
 replace HB := Aside0.mk (below_then HB.out HB.out.size hb)
 obtain ⟨As, cs, rfl⟩ := Kd.R_slice hr
 have LS := Aside0.mk (Kd.R_reads' hr).2.1
 have RS := Aside0.mk (Kd.R_reads' hr).2.2
 clear hb hr q0 q1 q2 q3 q4 q5 q6 q7 q8 q9 q10 q11
 go_wp2_with fail
 go_at_call 10
 with_reducible refine (message_Decode.calls k Ab cb b d0 d1 d2 d3 d4 d5 d6 d7 d8 d9 d10 d11 d12 _ RB.out LB.out H4.out).mono ?_
 rintro e w4 ⟨v1, rfl, hr, hb⟩
 replace BA := Aside0.mk (blk_below BA.out hb)
 replace BB := Aside0.mk (blk_below BB.out hb)
 replace RB := Aside0.mk (Kd.C_below RB.out hb)
 replace RR := Aside0.mk (Kd.C_below RR.out hb)
 replace RS := Aside0.mk (Kd.C_below RS.out hb)
 replace HB := Aside0.mk (below_then HB.out HB.out.size hb)
 obtain ⟨Ad, cd, rfl⟩ := Kd.R_slice hr
 have LD := Aside0.mk (Kd.R_reads' hr).2.1
 have RD := Aside0.mk (Kd.R_reads' hr).2.2
 clear hb hr
 go_upto_region 5 with fail
 obtain ⟨x5, hx5⟩ : ∃ W, W = w4.alloc (.cells #[.int .i64 d0, .int .i64 d1, .int .i64 d2, .int .i64 d3, .int .i64 d4, .int .i64 d5, .int .i64 d6, .int .i64 d7, .int .i64 d8, .int .i64 d9, .int .i64 d10, .slice Ad d11.length cd] 25) := ⟨_, rfl⟩
 obtain ⟨gBD, hgBD⟩ : ∃ g, g = w4.heap.size := ⟨_, rfl⟩
 rw [← hx5, ← hgBD]
 have hb : Below w4.heap.size w4 x5 := by rw [hx5]; exact below_alloc (Below.refl _ _) _
 replace BA := Aside0.mk (blk_below BA.out hb)
 replace BB := Aside0.mk (blk_below BB.out hb)
 replace RB := Aside0.mk (Kd.C_below RB.out hb)
 replace RR := Aside0.mk (Kd.C_below RR.out hb)
 replace RS := Aside0.mk (Kd.C_below RS.out hb)
 replace RD := Aside0.mk (Kd.C_below RD.out hb)
 replace HB := Aside0.mk (below_then HB.out HB.out.size hb)
 have BD := Aside0.mk (show x5.heap[gBD]? = some (.cells #[.int .i64 d0, .int .i64 d1, .int .i64 d2, .int .i64 d3, .int .i64 d4, .int .i64 d5, .int .i64 d6, .int .i64 d7, .int .i64 d8, .int .i64 d9, .int .i64 d10, .slice Ad d11.length cd] 25 (0, 0)) by rw [hx5, hgBD]; exact heap_new1 _ _)
 clear hb hx5 hgBD
 go_wp2_with fail
 go_at_call 18
 with_reducible refine (waybillref09_Decode.calls k A2 c2 b d0 d1 d2 d3 d4 d5 d6 d7 d8 d9 d10 d11 d12 _ (Kd.C_below HR2.out HB.out) HC2.out H5.out).mono ?_
 rintro e w5 ⟨v1, rfl, hr, hb⟩
 replace BA := Aside0.mk (blk_below BA.out hb)
 replace BB := Aside0.mk (blk_below BB.out hb)
 replace RB := Aside0.mk (Kd.C_below RB.out hb)
 replace RR := Aside0.mk (Kd.C_below RR.out hb)
 replace RS := Aside0.mk (Kd.C_below RS.out hb)
 replace RD := Aside0.mk (Kd.C_below RD.out hb)
 replace BD := Aside0.mk (blk_below BD.out hb)
 replace HB := Aside0.mk (below_then HB.out HB.out.size hb)
 obtain ⟨Ae, ce, rfl⟩ := Kd.R_slice hr
 have LE := Aside0.mk (Kd.R_reads' hr).2.1
 have RE := Aside0.mk (Kd.R_reads' hr).2.2
 clear hb hr
 go_upto_region 6 with fail
 obtain ⟨x6, hx6⟩ : ∃ W, W = w5.alloc (.cells #[.int .i64 d0, .int .i64 d1, .int .i64 d2, .int .i64 d3, .int .i64 d4, .int .i64 d5, .int .i64 d6, .int .i64 d7, .int .i64 d8, .int .i64 d9, .int .i64 d10, .slice Ae d11.length ce] 25) := ⟨_, rfl⟩
 obtain ⟨gBE, hgBE⟩ : ∃ g, g = w5.heap.size := ⟨_, rfl⟩
 rw [← hx6, ← hgBE]
 have hb : Below w5.heap.size w5 x6 := by rw [hx6]; exact below_alloc (Below.refl _ _) _
 replace BA := Aside0.mk (blk_below BA.out hb)
 replace BB := Aside0.mk (blk_below BB.out hb)
 replace RB := Aside0.mk (Kd.C_below RB.out hb)
 replace RR := Aside0.mk (Kd.C_below RR.out hb)
 replace RS := Aside0.mk (Kd.C_below RS.out hb)
 replace RD := Aside0.mk (Kd.C_below RD.out hb)
 replace BD := Aside0.mk (blk_below BD.out hb)
 replace RE := Aside0.mk (Kd.C_below RE.out hb)
 replace HB := Aside0.mk (below_then HB.out HB.out.size hb)
 have BE := Aside0.mk (show x6.heap[gBE]? = some (.cells #[.int .i64 d0, .int .i64 d1, .int .i64 d2, .int .i64 d3, .int .i64 d4, .int .i64 d5, .int .i64 d6, .int .i64 d7, .int .i64 d8, .int .i64 d9, .int .i64 d10, .slice Ae d11.length ce] 25 (0, 0)) by rw [hx6, hgBE]; exact heap_new1 _ _)
 clear hb hx6 hgBE
 have q0 : x6.cell? ⟨w.heap.size, 0, none⟩ = some (.int .i64 a0_0) := (blk_cell BA.out 0).trans rfl
 have r0 : x6.cell? ⟨w.heap.size + 1, 0, none⟩ = some (.int .i64 a1_0) := (blk_cell BB.out 0).trans rfl
 have q1 : x6.cell? ⟨w.heap.size, 1, none⟩ = some (.int .i64 a0_1) := (blk_cell BA.out 1).trans rfl
 have r1 : x6.cell? ⟨w.heap.size + 1, 1, none⟩ = some (.int .i64 a1_1) := (blk_cell BB.out 1).trans rfl
 have q2 : x6.cell? ⟨w.heap.size, 2, none⟩ = some (.int .i64 a0_2) := (blk_cell BA.out 2).trans rfl
 have r2 : x6.cell? ⟨w.heap.size + 1, 2, none⟩ = some (.int .i64 a1_2) := (blk_cell BB.out 2).trans rfl
 have q3 : x6.cell? ⟨w.heap.size, 3, none⟩ = some (.int .i64 a0_3) := (blk_cell BA.out 3).trans rfl
 have r3 : x6.cell? ⟨w.heap.size + 1, 3, none⟩ = some (.int .i64 a1_3) := (blk_cell BB.out 3).trans rfl
 have q4 : x6.cell? ⟨w.heap.size, 4, none⟩ = some (.int .i64 a0_4) := (blk_cell BA.out 4).trans rfl
 have r4 : x6.cell? ⟨w.heap.size + 1, 4, none⟩ = some (.int .i64 a1_4) := (blk_cell BB.out 4).trans rfl
 have q5 : x6.cell? ⟨w.heap.size, 5, none⟩ = some (.int .i64 a0_5) := (blk_cell BA.out 5).trans rfl
 have r5 : x6.cell? ⟨w.heap.size + 1, 5, none⟩ = some (.int .i64 a1_5) := (blk_cell BB.out 5).trans rfl
 have q6 : x6.cell? ⟨w.heap.size, 6, none⟩ = some (.int .i64 a0_6) := (blk_cell BA.out 6).trans rfl
 have r6 : x6.cell? ⟨w.heap.size + 1, 6, none⟩ = some (.int .i64 a1_6) := (blk_cell BB.out 6).trans rfl
 have q7 : x6.cell? ⟨w.heap.size, 7, none⟩ = some (.int .i64 a0_7) := (blk_cell BA.out 7).trans rfl
 have r7 : x6.cell? ⟨w.heap.size + 1, 7, none⟩ = some (.int .i64 a1_7) := (blk_cell BB.out 7).trans rfl
 have q8 : x6.cell? ⟨w.heap.size, 8, none⟩ = some (.int .i64 a0_8) := (blk_cell BA.out 8).trans rfl
 have r8 : x6.cell? ⟨w.heap.size + 1, 8, none⟩ = some (.int .i64 a1_8) := (blk_cell BB.out 8).trans rfl
 have q9 : x6.cell? ⟨w.heap.size, 9, none⟩ = some (.int .i64 a0_9) := (blk_cell BA.out 9).trans rfl
 have r9 : x6.cell? ⟨w.heap.size + 1, 9, none⟩ = some (.int .i64 a1_9) := (blk_cell BB.out 9).trans rfl
 have q10 : x6.cell? ⟨w.heap.size, 10, none⟩ = some (.int .i64 a0_10) := (blk_cell BA.out 10).trans rfl
 have r10 : x6.cell? ⟨w.heap.size + 1, 10, none⟩ = some (.int .i64 a1_10) := (blk_cell BB.out 10).trans rfl
 have q11 : x6.cell? ⟨w.heap.size, 11, none⟩ = some (.slice A0_11 l0_11.length c0_11) := (blk_cell BA.out 11).trans rfl
 have r11 : x6.cell? ⟨w.heap.size + 1, 11, none⟩ = some (.slice A1_11 l1_11.length c1_11) := (blk_cell BB.out 11).trans rfl
 have hb0 := below_alloc (Below.refl x6.heap.size x6) (.cells #[.int .i64 a0_0, .int .i64 a0_1, .int .i64 a0_2, .int .i64 a0_3, .int .i64 a0_4, .int .i64 a0_5, .int .i64 a0_6, .int .i64 a0_7, .int .i64 a0_8, .int .i64 a0_9, .int .i64 a0_10, .slice A0_11 l0_11.length c0_11, .int .i64 a1_0, .int .i64 a1_1, .int .i64 a1_2, .int .i64 a1_3, .int .i64 a1_4, .int .i64 a1_5, .int .i64 a1_6, .int .i64 a1_7, .int .i64 a1_8, .int .i64 a1_9, .int .i64 a1_10, .slice A1_11 l1_11.length c1_11] 25)
 have HBX := Aside0.mk (below_then HB.out HB.out.size hb0)
 clear hb0
 go_wp2_with fail
 go_at_call 20
 refine calls_of_args (args' := #[.slice (some ⟨x6.heap.size, 0, none⟩) [(⟨a0_0, a0_1, a0_2, a0_3, a0_4, a0_5, a0_6, a0_7, a0_8, a0_9, a0_10, l0_11⟩ : S25), (⟨a1_0, a1_1, a1_2, a1_3, a1_4, a1_5, a1_6, a1_7, a1_8, a1_9, a1_10, l1_11⟩ : S25)].length 2]) rfl ?_
 with_reducible refine (message_Frames.calls k (some ⟨x6.heap.size, 0, none⟩) 2 [(⟨a0_0, a0_1, a0_2, a0_3, a0_4, a0_5, a0_6, a0_7, a0_8, a0_9, a0_10, l0_11⟩ : S25), (⟨a1_0, a1_1, a1_2, a1_3, a1_4, a1_5, a1_6, a1_7, a1_8, a1_9, a1_10, l1_11⟩ : S25)] f1 f2 _ ?hc (Nat.le_refl _) H6.out).mono ?_
 case hc => exact C_cells (heap_new1 x6 (.cells #[.int .i64 a0_0, .int .i64 a0_1, .int .i64 a0_2, .int .i64 a0_3, .int .i64 a0_4, .int .i64 a0_5, .int .i64 a0_6, .int .i64 a0_7, .int .i64 a0_8, .int .i64 a0_9, .int .i64 a0_10, .slice A0_11 l0_11.length c0_11, .int .i64 a1_0, .int .i64 a1_1, .int .i64 a1_2, .int .i64 a1_3, .int .i64 a1_4, .int .i64 a1_5, .int .i64 a1_6, .int .i64 a1_7, .int .i64 a1_8, .int .i64 a1_9, .int .i64 a1_10, .slice A1_11 l1_11.length c1_11] 25)) (by simp) (Reps.front (k25_mk _ (⟨a0_0, a0_1, a0_2, a0_3, a0_4, a0_5, a0_6, a0_7, a0_8, a0_9, a0_10, l0_11⟩ : S25) HC0.out (Kd.C_below HR0.out HBX.out)) rfl (Reps.front (k25_mk _ (⟨a1_0, a1_1, a1_2, a1_3, a1_4, a1_5, a1_6, a1_7, a1_8, a1_9, a1_10, l1_11⟩ : S25) HC1.out (Kd.C_below HR1.out HBX.out)) rfl (Reps.none _ _) rfl) rfl)
 rintro e w6 ⟨v1, rfl, hr, hb⟩
 have hb2 := below_then (below_alloc (Below.refl x6.heap.size x6) (.cells #[.int .i64 a0_0, .int .i64 a0_1, .int .i64 a0_2, .int .i64 a0_3, .int .i64 a0_4, .int .i64 a0_5, .int .i64 a0_6, .int .i64 a0_7, .int .i64 a0_8, .int .i64 a0_9, .int .i64 a0_10, .slice A0_11 l0_11.length c0_11, .int .i64 a1_0, .int .i64 a1_1, .int .i64 a1_2, .int .i64 a1_3, .int .i64 a1_4, .int .i64 a1_5, .int .i64 a1_6, .int .i64 a1_7, .int .i64 a1_8, .int .i64 a1_9, .int .i64 a1_10, .slice A1_11 l1_11.length c1_11] 25)) (by simp) hb
 replace BA := Aside0.mk (blk_below BA.out hb2)
 replace BB := Aside0.mk (blk_below BB.out hb2)
 replace RB := Aside0.mk (Kd.C_below RB.out hb2)
 replace RR := Aside0.mk (Kd.C_below RR.out hb2)
 replace RS := Aside0.mk (Kd.C_below RS.out hb2)
 replace RD := Aside0.mk (Kd.C_below RD.out hb2)
 replace BD := Aside0.mk (blk_below BD.out hb2)
 replace RE := Aside0.mk (Kd.C_below RE.out hb2)
 replace BE := Aside0.mk (blk_below BE.out hb2)
 replace HB := Aside0.mk (below_then HB.out HB.out.size hb2)
 obtain ⟨Af, cf, rfl⟩ := Kd.R_slice hr
 have LF := Aside0.mk (Kd.R_reads' hr).2.1
 have RF := Aside0.mk (Kd.R_reads' hr).2.2
 clear hb hb2 hr HBX q0 q1 q2 q3 q4 q5 q6 q7 q8 q9 q10 q11 r0 r1 r2 r3 r4 r5 r6 r7 r8 r9 r10 r11
 have q0 : w6.cell? ⟨w.heap.size, 0, none⟩ = some (.int .i64 a0_0) := (blk_cell BA.out 0).trans rfl
 have r0 : w6.cell? ⟨w.heap.size + 1, 0, none⟩ = some (.int .i64 a1_0) := (blk_cell BB.out 0).trans rfl
 have q1 : w6.cell? ⟨w.heap.size, 1, none⟩ = some (.int .i64 a0_1) := (blk_cell BA.out 1).trans rfl
 have r1 : w6.cell? ⟨w.heap.size + 1, 1, none⟩ = some (.int .i64 a1_1) := (blk_cell BB.out 1).trans rfl
 have q2 : w6.cell? ⟨w.heap.size, 2, none⟩ = some (.int .i64 a0_2) := (blk_cell BA.out 2).trans rfl
 have r2 : w6.cell? ⟨w.heap.size + 1, 2, none⟩ = some (.int .i64 a1_2) := (blk_cell BB.out 2).trans rfl
 have q3 : w6.cell? ⟨w.heap.size, 3, none⟩ = some (.int .i64 a0_3) := (blk_cell BA.out 3).trans rfl
 have r3 : w6.cell? ⟨w.heap.size + 1, 3, none⟩ = some (.int .i64 a1_3) := (blk_cell BB.out 3).trans rfl
 have q4 : w6.cell? ⟨w.heap.size, 4, none⟩ = some (.int .i64 a0_4) := (blk_cell BA.out 4).trans rfl
 have r4 : w6.cell? ⟨w.heap.size + 1, 4, none⟩ = some (.int .i64 a1_4) := (blk_cell BB.out 4).trans rfl
 have q5 : w6.cell? ⟨w.heap.size, 5, none⟩ = some (.int .i64 a0_5) := (blk_cell BA.out 5).trans rfl
 have r5 : w6.cell? ⟨w.heap.size + 1, 5, none⟩ = some (.int .i64 a1_5) := (blk_cell BB.out 5).trans rfl
 have q6 : w6.cell? ⟨w.heap.size, 6, none⟩ = some (.int .i64 a0_6) := (blk_cell BA.out 6).trans rfl
 have r6 : w6.cell? ⟨w.heap.size + 1, 6, none⟩ = some (.int .i64 a1_6) := (blk_cell BB.out 6).trans rfl
 have q7 : w6.cell? ⟨w.heap.size, 7, none⟩ = some (.int .i64 a0_7) := (blk_cell BA.out 7).trans rfl
 have r7 : w6.cell? ⟨w.heap.size + 1, 7, none⟩ = some (.int .i64 a1_7) := (blk_cell BB.out 7).trans rfl
 have q8 : w6.cell? ⟨w.heap.size, 8, none⟩ = some (.int .i64 a0_8) := (blk_cell BA.out 8).trans rfl
 have r8 : w6.cell? ⟨w.heap.size + 1, 8, none⟩ = some (.int .i64 a1_8) := (blk_cell BB.out 8).trans rfl
 have q9 : w6.cell? ⟨w.heap.size, 9, none⟩ = some (.int .i64 a0_9) := (blk_cell BA.out 9).trans rfl
 have r9 : w6.cell? ⟨w.heap.size + 1, 9, none⟩ = some (.int .i64 a1_9) := (blk_cell BB.out 9).trans rfl
 have q10 : w6.cell? ⟨w.heap.size, 10, none⟩ = some (.int .i64 a0_10) := (blk_cell BA.out 10).trans rfl
 have r10 : w6.cell? ⟨w.heap.size + 1, 10, none⟩ = some (.int .i64 a1_10) := (blk_cell BB.out 10).trans rfl
 have q11 : w6.cell? ⟨w.heap.size, 11, none⟩ = some (.slice A0_11 l0_11.length c0_11) := (blk_cell BA.out 11).trans rfl
 have r11 : w6.cell? ⟨w.heap.size + 1, 11, none⟩ = some (.slice A1_11 l1_11.length c1_11) := (blk_cell BB.out 11).trans rfl
 have hb0 := below_alloc (Below.refl w6.heap.size w6) (.cells #[.int .i64 a0_0, .int .i64 a0_1, .int .i64 a0_2, .int .i64 a0_3, .int .i64 a0_4, .int .i64 a0_5, .int .i64 a0_6, .int .i64 a0_7, .int .i64 a0_8, .int .i64 a0_9, .int .i64 a0_10, .slice A0_11 l0_11.length c0_11, .int .i64 a1_0, .int .i64 a1_1, .int .i64 a1_2, .int .i64 a1_3, .int .i64 a1_4, .int .i64 a1_5, .int .i64 a1_6, .int .i64 a1_7, .int .i64 a1_8, .int .i64 a1_9, .int .i64 a1_10, .slice A1_11 l1_11.length c1_11] 25)
 have HBX := Aside0.mk (below_then HB.out HB.out.size hb0)
 clear hb0
 go_wp2_with fail
 go_at_call 23
 refine calls_of_args (args' := #[.slice (some ⟨w6.heap.size, 0, none⟩) [(⟨a0_0, a0_1, a0_2, a0_3, a0_4, a0_5, a0_6, a0_7, a0_8, a0_9, a0_10, l0_11⟩ : S25), (⟨a1_0, a1_1, a1_2, a1_3, a1_4, a1_5, a1_6, a1_7, a1_8, a1_9, a1_10, l1_11⟩ : S25)].length 2]) rfl ?_
 with_reducible refine (waybillref09_Frames.calls k (some ⟨w6.heap.size, 0, none⟩) 2 [(⟨a0_0, a0_1, a0_2, a0_3, a0_4, a0_5, a0_6, a0_7, a0_8, a0_9, a0_10, l0_11⟩ : S25), (⟨a1_0, a1_1, a1_2, a1_3, a1_4, a1_5, a1_6, a1_7, a1_8, a1_9, a1_10, l1_11⟩ : S25)] f1 f2 _ ?hc (Nat.le_refl _) H7.out).mono ?_
 case hc => exact C_cells (heap_new1 w6 (.cells #[.int .i64 a0_0, .int .i64 a0_1, .int .i64 a0_2, .int .i64 a0_3, .int .i64 a0_4, .int .i64 a0_5, .int .i64 a0_6, .int .i64 a0_7, .int .i64 a0_8, .int .i64 a0_9, .int .i64 a0_10, .slice A0_11 l0_11.length c0_11, .int .i64 a1_0, .int .i64 a1_1, .int .i64 a1_2, .int .i64 a1_3, .int .i64 a1_4, .int .i64 a1_5, .int .i64 a1_6, .int .i64 a1_7, .int .i64 a1_8, .int .i64 a1_9, .int .i64 a1_10, .slice A1_11 l1_11.length c1_11] 25)) (by simp) (Reps.front (k25_mk _ (⟨a0_0, a0_1, a0_2, a0_3, a0_4, a0_5, a0_6, a0_7, a0_8, a0_9, a0_10, l0_11⟩ : S25) HC0.out (Kd.C_below HR0.out HBX.out)) rfl (Reps.front (k25_mk _ (⟨a1_0, a1_1, a1_2, a1_3, a1_4, a1_5, a1_6, a1_7, a1_8, a1_9, a1_10, l1_11⟩ : S25) HC1.out (Kd.C_below HR1.out HBX.out)) rfl (Reps.none _ _) rfl) rfl)
 rintro e w7 ⟨v1, rfl, hr, hb⟩
 have hb2 := below_then (below_alloc (Below.refl w6.heap.size w6) (.cells #[.int .i64 a0_0, .int .i64 a0_1, .int .i64 a0_2, .int .i64 a0_3, .int .i64 a0_4, .int .i64 a0_5, .int .i64 a0_6, .int .i64 a0_7, .int .i64 a0_8, .int .i64 a0_9, .int .i64 a0_10, .slice A0_11 l0_11.length c0_11, .int .i64 a1_0, .int .i64 a1_1, .int .i64 a1_2, .int .i64 a1_3, .int .i64 a1_4, .int .i64 a1_5, .int .i64 a1_6, .int .i64 a1_7, .int .i64 a1_8, .int .i64 a1_9, .int .i64 a1_10, .slice A1_11 l1_11.length c1_11] 25)) (by simp) hb
 replace BA := Aside0.mk (blk_below BA.out hb2)
 replace BB := Aside0.mk (blk_below BB.out hb2)
 replace RB := Aside0.mk (Kd.C_below RB.out hb2)
 replace RR := Aside0.mk (Kd.C_below RR.out hb2)
 replace RS := Aside0.mk (Kd.C_below RS.out hb2)
 replace RD := Aside0.mk (Kd.C_below RD.out hb2)
 replace BD := Aside0.mk (blk_below BD.out hb2)
 replace RE := Aside0.mk (Kd.C_below RE.out hb2)
 replace BE := Aside0.mk (blk_below BE.out hb2)
 replace RF := Aside0.mk (Kd.C_below RF.out hb2)
 replace HB := Aside0.mk (below_then HB.out HB.out.size hb2)
 obtain ⟨Ag, cg, rfl⟩ := Kd.R_slice hr
 have LG := Aside0.mk (Kd.R_reads' hr).2.1
 have RG := Aside0.mk (Kd.R_reads' hr).2.2
 clear hb hb2 hr HBX q0 q1 q2 q3 q4 q5 q6 q7 q8 q9 q10 q11 r0 r1 r2 r3 r4 r5 r6 r7 r8 r9 r10 r11
 go_wp2_with fail
 go_at_call 21
 with_reducible refine (message_Read.calls k Ab cb b m1 m2 _ RB.out LB.out H8.out).mono ?_
 rintro e w8 ⟨v1, rfl, hr, hb⟩
 replace BA := Aside0.mk (blk_below BA.out hb)
 replace BB := Aside0.mk (blk_below BB.out hb)
 replace RB := Aside0.mk (Kd.C_below RB.out hb)
 replace RR := Aside0.mk (Kd.C_below RR.out hb)
 replace RS := Aside0.mk (Kd.C_below RS.out hb)
 replace RD := Aside0.mk (Kd.C_below RD.out hb)
 replace BD := Aside0.mk (blk_below BD.out hb)
 replace RE := Aside0.mk (Kd.C_below RE.out hb)
 replace BE := Aside0.mk (blk_below BE.out hb)
 replace RF := Aside0.mk (Kd.C_below RF.out hb)
 replace RG := Aside0.mk (Kd.C_below RG.out hb)
 replace HB := Aside0.mk (below_then HB.out HB.out.size hb)
 obtain ⟨Am, cm, rfl⟩ := Kd.R_slice (Kd.S_R hr)
 have LM := Aside0.mk (Kd.R_reads' (Kd.S_R hr)).2.1
 have RM := Aside0.mk (Kd.R_reads' (Kd.S_R hr)).2.2
 clear hb hr
 go_wp2_with fail
 go_at_call 24
 with_reducible refine (waybillref09_Read.calls k A2 c2 b n1 m2 _ (Kd.C_below HR2.out HB.out) HC2.out H9.out).mono ?_
 rintro e w9 ⟨v1, rfl, hr, hb⟩
 replace BA := Aside0.mk (blk_below BA.out hb)
 replace BB := Aside0.mk (blk_below BB.out hb)
 replace RB := Aside0.mk (Kd.C_below RB.out hb)
 replace RR := Aside0.mk (Kd.C_below RR.out hb)
 replace RS := Aside0.mk (Kd.C_below RS.out hb)
 replace RD := Aside0.mk (Kd.C_below RD.out hb)
 replace BD := Aside0.mk (blk_below BD.out hb)
 replace RE := Aside0.mk (Kd.C_below RE.out hb)
 replace BE := Aside0.mk (blk_below BE.out hb)
 replace RF := Aside0.mk (Kd.C_below RF.out hb)
 replace RG := Aside0.mk (Kd.C_below RG.out hb)
 replace RM := Aside0.mk (Kd.C_below RM.out hb)
 replace HB := Aside0.mk (below_then HB.out HB.out.size hb)
 obtain ⟨An, cn, rfl⟩ := Kd.R_slice (Kd.S_R hr)
 have LN := Aside0.mk (Kd.R_reads' (Kd.S_R hr)).2.1
 have RN := Aside0.mk (Kd.R_reads' (Kd.S_R hr)).2.2
 clear hb hr
 go_wp2_with fail
 go_at_call 14
 with_reducible refine (waybillplain_SameBytes.calls Ar cr r1 As cs r1 true _ RR.out LR.out RS.out LS.out (sameB_self r1)).mono ?_
 rintro e w10 ⟨rfl, hd⟩
 replace BA := Aside0.mk (blk_below BA.out hd.below)
 replace BB := Aside0.mk (blk_below BB.out hd.below)
 replace RB := Aside0.mk (Kd.C_below RB.out hd.below)
 replace RR := Aside0.mk (Kd.C_below RR.out hd.below)
 replace RS := Aside0.mk (Kd.C_below RS.out hd.below)
 replace RD := Aside0.mk (Kd.C_below RD.out hd.below)
 replace BD := Aside0.mk (blk_below BD.out hd.below)
 replace RE := Aside0.mk (Kd.C_below RE.out hd.below)
 replace BE := Aside0.mk (blk_below BE.out hd.below)
 replace RF := Aside0.mk (Kd.C_below RF.out hd.below)
 replace RG := Aside0.mk (Kd.C_below RG.out hd.below)
 replace RM := Aside0.mk (Kd.C_below RM.out hd.below)
 replace RN := Aside0.mk (Kd.C_below RN.out hd.below)
 replace HB := Aside0.mk (below_then HB.out HB.out.size hd.below)
 clear hd
 go_wp2_with fail
 go_at_call 11
 with_reducible refine (waybilllaw09_num.calls r2 r2 _ rfl).mono ?_
 rintro e w11 ⟨rfl, hd⟩
 replace BA := Aside0.mk (blk_below BA.out hd.below)
 replace BB := Aside0.mk (blk_below BB.out hd.below)
 replace RB := Aside0.mk (Kd.C_below RB.out hd.below)
 replace RR := Aside0.mk (Kd.C_below RR.out hd.below)
 replace RS := Aside0.mk (Kd.C_below RS.out hd.below)
 replace RD := Aside0.mk (Kd.C_below RD.out hd.below)
 replace BD := Aside0.mk (blk_below BD.out hd.below)
 replace RE := Aside0.mk (Kd.C_below RE.out hd.below)
 replace BE := Aside0.mk (blk_below BE.out hd.below)
 replace RF := Aside0.mk (Kd.C_below RF.out hd.below)
 replace RG := Aside0.mk (Kd.C_below RG.out hd.below)
 replace RM := Aside0.mk (Kd.C_below RM.out hd.below)
 replace RN := Aside0.mk (Kd.C_below RN.out hd.below)
 replace HB := Aside0.mk (below_then HB.out HB.out.size hd.below)
 clear hd
 have q0 : w11.cell? ⟨gBD, 0, none⟩ = some (.int .i64 d0) := (blk_cell BD.out 0).trans rfl
 have r0 : w11.cell? ⟨gBE, 0, none⟩ = some (.int .i64 d0) := (blk_cell BE.out 0).trans rfl
 have q1 : w11.cell? ⟨gBD, 1, none⟩ = some (.int .i64 d1) := (blk_cell BD.out 1).trans rfl
 have r1 : w11.cell? ⟨gBE, 1, none⟩ = some (.int .i64 d1) := (blk_cell BE.out 1).trans rfl
 have q2 : w11.cell? ⟨gBD, 2, none⟩ = some (.int .i64 d2) := (blk_cell BD.out 2).trans rfl
 have r2 : w11.cell? ⟨gBE, 2, none⟩ = some (.int .i64 d2) := (blk_cell BE.out 2).trans rfl
 have q3 : w11.cell? ⟨gBD, 3, none⟩ = some (.int .i64 d3) := (blk_cell BD.out 3).trans rfl
 have r3 : w11.cell? ⟨gBE, 3, none⟩ = some (.int .i64 d3) := (blk_cell BE.out 3).trans rfl
 have q4 : w11.cell? ⟨gBD, 4, none⟩ = some (.int .i64 d4) := (blk_cell BD.out 4).trans rfl
 have r4 : w11.cell? ⟨gBE, 4, none⟩ = some (.int .i64 d4) := (blk_cell BE.out 4).trans rfl
 have q5 : w11.cell? ⟨gBD, 5, none⟩ = some (.int .i64 d5) := (blk_cell BD.out 5).trans rfl
 have r5 : w11.cell? ⟨gBE, 5, none⟩ = some (.int .i64 d5) := (blk_cell BE.out 5).trans rfl
 have q6 : w11.cell? ⟨gBD, 6, none⟩ = some (.int .i64 d6) := (blk_cell BD.out 6).trans rfl
 have r6 : w11.cell? ⟨gBE, 6, none⟩ = some (.int .i64 d6) := (blk_cell BE.out 6).trans rfl
 have q7 : w11.cell? ⟨gBD, 7, none⟩ = some (.int .i64 d7) := (blk_cell BD.out 7).trans rfl
 have r7 : w11.cell? ⟨gBE, 7, none⟩ = some (.int .i64 d7) := (blk_cell BE.out 7).trans rfl
 have q8 : w11.cell? ⟨gBD, 8, none⟩ = some (.int .i64 d8) := (blk_cell BD.out 8).trans rfl
 have r8 : w11.cell? ⟨gBE, 8, none⟩ = some (.int .i64 d8) := (blk_cell BE.out 8).trans rfl
 have q9 : w11.cell? ⟨gBD, 9, none⟩ = some (.int .i64 d9) := (blk_cell BD.out 9).trans rfl
 have r9 : w11.cell? ⟨gBE, 9, none⟩ = some (.int .i64 d9) := (blk_cell BE.out 9).trans rfl
 have q10 : w11.cell? ⟨gBD, 10, none⟩ = some (.int .i64 d10) := (blk_cell BD.out 10).trans rfl
 have r10 : w11.cell? ⟨gBE, 10, none⟩ = some (.int .i64 d10) := (blk_cell BE.out 10).trans rfl
 have q11 : w11.cell? ⟨gBD, 11, none⟩ = some (.slice Ad d11.length cd) := (blk_cell BD.out 11).trans rfl
 have r11 : w11.cell? ⟨gBE, 11, none⟩ = some (.slice Ae d11.length ce) := (blk_cell BE.out 11).trans rfl
 go_wp2_with fail
 go_at_call 12
 with_reducible refine (waybillplain_SameMsg.calls d0 d1 d2 d3 d4 d5 d6 d7 d8 d9 d10 Ad cd d11 d0 d1 d2 d3 d4 d5 d6 d7 d8 d9 d10 Ae ce d11 true _ RD.out LD.out RE.out LE.out (sameM_self d0 d1 d2 d3 d4 d5 d6 d7 d8 d9 d10 d11)).mono ?_
 rintro e w12 ⟨rfl, hb⟩
 replace BA := Aside0.mk (blk_below BA.out hb)
 replace BB := Aside0.mk (blk_below BB.out hb)
 replace RB := Aside0.mk (Kd.C_below RB.out hb)
 replace RR := Aside0.mk (Kd.C_below RR.out hb)
 replace RS := Aside0.mk (Kd.C_below RS.out hb)
 replace RD := Aside0.mk (Kd.C_below RD.out hb)
 replace BD := Aside0.mk (blk_below BD.out hb)
 replace RE := Aside0.mk (Kd.C_below RE.out hb)
 replace BE := Aside0.mk (blk_below BE.out hb)
 replace RF := Aside0.mk (Kd.C_below RF.out hb)
 replace RG := Aside0.mk (Kd.C_below RG.out hb)
 replace RM := Aside0.mk (Kd.C_below RM.out hb)
 replace RN := Aside0.mk (Kd.C_below RN.out hb)
 replace HB := Aside0.mk (below_then HB.out HB.out.size hb)
 clear hb q0 q1 q2 q3 q4 q5 q6 q7 q8 q9 q10 q11 r0 r1 r2 r3 r4 r5 r6 r7 r8 r9 r10 r11
 go_wp2_with fail
 go_at_call 11
 with_reducible refine (waybilllaw09_num.calls d12 d12 _ rfl).mono ?_
 rintro e w13 ⟨rfl, hd⟩
 replace BA := Aside0.mk (blk_below BA.out hd.below)
 replace BB := Aside0.mk (blk_below BB.out hd.below)
 replace RB := Aside0.mk (Kd.C_below RB.out hd.below)
 replace RR := Aside0.mk (Kd.C_below RR.out hd.below)
 replace RS := Aside0.mk (Kd.C_below RS.out hd.below)
 replace RD := Aside0.mk (Kd.C_below RD.out hd.below)
 replace BD := Aside0.mk (blk_below BD.out hd.below)
 replace RE := Aside0.mk (Kd.C_below RE.out hd.below)
 replace BE := Aside0.mk (blk_below BE.out hd.below)
 replace RF := Aside0.mk (Kd.C_below RF.out hd.below)
 replace RG := Aside0.mk (Kd.C_below RG.out hd.below)
 replace RM := Aside0.mk (Kd.C_below RM.out hd.below)
 replace RN := Aside0.mk (Kd.C_below RN.out hd.below)
 replace HB := Aside0.mk (below_then HB.out HB.out.size hd.below)
 clear hd
 go_wp2_with fail
 go_at_call 14
 with_reducible refine (waybillplain_SameBytes.calls Af cf f1 Ag cg f1 true _ RF.out LF.out RG.out LG.out (sameB_self f1)).mono ?_
 rintro e w14 ⟨rfl, hd⟩
 replace BA := Aside0.mk (blk_below BA.out hd.below)
 replace BB := Aside0.mk (blk_below BB.out hd.below)
 replace RB := Aside0.mk (Kd.C_below RB.out hd.below)
 replace RR := Aside0.mk (Kd.C_below RR.out hd.below)
 replace RS := Aside0.mk (Kd.C_below RS.out hd.below)
 replace RD := Aside0.mk (Kd.C_below RD.out hd.below)
 replace BD := Aside0.mk (blk_below BD.out hd.below)
 replace RE := Aside0.mk (Kd.C_below RE.out hd.below)
 replace BE := Aside0.mk (blk_below BE.out hd.below)
 replace RF := Aside0.mk (Kd.C_below RF.out hd.below)
 replace RG := Aside0.mk (Kd.C_below RG.out hd.below)
 replace RM := Aside0.mk (Kd.C_below RM.out hd.below)
 replace RN := Aside0.mk (Kd.C_below RN.out hd.below)
 replace HB := Aside0.mk (below_then HB.out HB.out.size hd.below)
 clear hd
 go_wp2_with fail
 go_at_call 11
 with_reducible refine (waybilllaw09_num.calls f2 f2 _ rfl).mono ?_
 rintro e w15 ⟨rfl, hd⟩
 replace BA := Aside0.mk (blk_below BA.out hd.below)
 replace BB := Aside0.mk (blk_below BB.out hd.below)
 replace RB := Aside0.mk (Kd.C_below RB.out hd.below)
 replace RR := Aside0.mk (Kd.C_below RR.out hd.below)
 replace RS := Aside0.mk (Kd.C_below RS.out hd.below)
 replace RD := Aside0.mk (Kd.C_below RD.out hd.below)
 replace BD := Aside0.mk (blk_below BD.out hd.below)
 replace RE := Aside0.mk (Kd.C_below RE.out hd.below)
 replace BE := Aside0.mk (blk_below BE.out hd.below)
 replace RF := Aside0.mk (Kd.C_below RF.out hd.below)
 replace RG := Aside0.mk (Kd.C_below RG.out hd.below)
 replace RM := Aside0.mk (Kd.C_below RM.out hd.below)
 replace RN := Aside0.mk (Kd.C_below RN.out hd.below)
 replace HB := Aside0.mk (below_then HB.out HB.out.size hd.below)
 clear hd
 go_wp2_with fail
 go_at_call 22
 with_reducible refine (waybillplain_SameMsgs.calls k Am cm m1 An cn n1 true _ RM.out LM.out RN.out LN.out H10.out).mono ?_
 rintro e w16 ⟨rfl, hb⟩
 replace BA := Aside0.mk (blk_below BA.out hb)
 replace BB := Aside0.mk (blk_below BB.out hb)
 replace RB := Aside0.mk (Kd.C_below RB.out hb)
 replace RR := Aside0.mk (Kd.C_below RR.out hb)
 replace RS := Aside0.mk (Kd.C_below RS.out hb)
 replace RD := Aside0.mk (Kd.C_below RD.out hb)
 replace BD := Aside0.mk (blk_below BD.out hb)
 replace RE := Aside0.mk (Kd.C_below RE.out hb)
 replace BE := Aside0.mk (blk_below BE.out hb)
 replace RF := Aside0.mk (Kd.C_below RF.out hb)
 replace RG := Aside0.mk (Kd.C_below RG.out hb)
 replace RM := Aside0.mk (Kd.C_below RM.out hb)
 replace RN := Aside0.mk (Kd.C_below RN.out hb)
 replace HB := Aside0.mk (below_then HB.out HB.out.size hb)
 clear hb
 go_wp2_with fail
 go_at_call 11
 with_reducible refine (waybilllaw09_num.calls m2 m2 _ rfl).mono ?_
 rintro e w17 ⟨rfl, hd⟩
 replace BA := Aside0.mk (blk_below BA.out hd.below)
 replace BB := Aside0.mk (blk_below BB.out hd.below)
 replace RB := Aside0.mk (Kd.C_below RB.out hd.below)
 replace RR := Aside0.mk (Kd.C_below RR.out hd.below)
 replace RS := Aside0.mk (Kd.C_below RS.out hd.below)
 replace RD := Aside0.mk (Kd.C_below RD.out hd.below)
 replace BD := Aside0.mk (blk_below BD.out hd.below)
 replace RE := Aside0.mk (Kd.C_below RE.out hd.below)
 replace BE := Aside0.mk (blk_below BE.out hd.below)
 replace RF := Aside0.mk (Kd.C_below RF.out hd.below)
 replace RG := Aside0.mk (Kd.C_below RG.out hd.below)
 replace RM := Aside0.mk (Kd.C_below RM.out hd.below)
 replace RN := Aside0.mk (Kd.C_below RN.out hd.below)
 replace HB := Aside0.mk (below_then HB.out HB.out.size hd.below)
 clear hd
 have q0 : w17.cell? ⟨w.heap.size, 0, none⟩ = some (.int .i64 a0_0) := (blk_cell BA.out 0).trans rfl
 have q1 : w17.cell? ⟨w.heap.size, 1, none⟩ = some (.int .i64 a0_1) := (blk_cell BA.out 1).trans rfl
 have q2 : w17.cell? ⟨w.heap.size, 2, none⟩ = some (.int .i64 a0_2) := (blk_cell BA.out 2).trans rfl
 have q3 : w17.cell? ⟨w.heap.size, 3, none⟩ = some (.int .i64 a0_3) := (blk_cell BA.out 3).trans rfl
 have q4 : w17.cell? ⟨w.heap.size, 4, none⟩ = some (.int .i64 a0_4) := (blk_cell BA.out 4).trans rfl
 have q5 : w17.cell? ⟨w.heap.size, 5, none⟩ = some (.int .i64 a0_5) := (blk_cell BA.out 5).trans rfl
 have q6 : w17.cell? ⟨w.heap.size, 6, none⟩ = some (.int .i64 a0_6) := (blk_cell BA.out 6).trans rfl
 have q7 : w17.cell? ⟨w.heap.size, 7, none⟩ = some (.int .i64 a0_7) := (blk_cell BA.out 7).trans rfl
 have q8 : w17.cell? ⟨w.heap.size, 8, none⟩ = some (.int .i64 a0_8) := (blk_cell BA.out 8).trans rfl
 have q9 : w17.cell? ⟨w.heap.size, 9, none⟩ = some (.int .i64 a0_9) := (blk_cell BA.out 9).trans rfl
 have q10 : w17.cell? ⟨w.heap.size, 10, none⟩ = some (.int .i64 a0_10) := (blk_cell BA.out 10).trans rfl
 have q11 : w17.cell? ⟨w.heap.size, 11, none⟩ = some (.slice A0_11 l0_11.length c0_11) := (blk_cell BA.out 11).trans rfl
 have HRA := Aside0.mk (Kd.C_below HR0.out HB.out)
 have HRL := Aside0.mk (Kd.C_below HR2.out HB.out)
 go_upto_region 12 with fail
 refine region_facts (B := _) (w0 := _) [(116, (fun v _ => v = .agg #[.int .i64 a0_0, .int .i64 a0_1, .int .i64 a0_2, .int .i64 a0_3, .int .i64 a0_4, .int .i64 a0_5, .int .i64 a0_6, .int .i64 a0_7, .int .i64 a0_8, .int .i64 a0_9, .int .i64 a0_10, .slice A0_11 l0_11.length c0_11])), (117, (fun v W => v = .int .i64 c)), (118, (fun v W => v = .int .i64 c)), (119, (fun v _ => v = .agg #[.int .i64 a0_0, .int .i64 a0_1, .int .i64 a0_2, .int .i64 a0_3, .int .i64 a0_4, .int .i64 a0_5, .int .i64 a0_6, .int .i64 a0_7, .int .i64 a0_8, .int .i64 a0_9, .int .i64 a0_10, .slice A0_11 l0_11.length c0_11])), (120, (fun v W => v = .int .i64 c)), (121, (fun v _ => v = .bool true)), (122, (fun v _ => v = .bool true)), (123, (fun v _ => v = .agg #[.int .i64 a0_0, .int .i64 a0_1, .int .i64 a0_2, .int .i64 a0_3, .int .i64 a0_4, .int .i64 a0_5, .int .i64 a0_6, .int .i64 a0_7, .int .i64 a0_8, .int .i64 a0_9, .int .i64 a0_10, .slice A0_11 l0_11.length c0_11])), (124, (fun v W => v = .bool q)), (125, (fun v _ => v = .agg #[.int .i64 a0_0, .int .i64 a0_1, .int .i64 a0_2, .int .i64 a0_3, .int .i64 a0_4, .int .i64 a0_5, .int .i64 a0_6, .int .i64 a0_7, .int .i64 a0_8, .int .i64 a0_9, .int .i64 a0_10, .slice A0_11 l0_11.length c0_11])), (126, (fun v W => v = .bool q)), (127, (fun v _ => v = .bool true)), (128, (fun v _ => v = .bool true)), (129, (fun v _ => v = .bool true)), (130, (fun v _ => v = .slice Ab b.length cb)), (131, (fun v _ => v = .slice A2 b.length c2)), (132, (fun v W => v = .bool true)), (133, (fun v _ => v = .bool true)), (134, (fun v _ => v = .bool true)), (135, (fun v W => v = .bool true)), (136, (fun v _ => v = .bool true)), (6, (fun v _ => v = .bool true))] (by kernel_rfl) (by kernel_rfl) (by rfl) (show ([116, 117, 118, 119, 120, 121, 122, 123, 124, 125, 126, 127, 128, 129, 130, 131, 132, 133, 134, 135, 136, 6] : List Nat).Nodup by decide) ?hsz ?hst (Below.refl _ _) (Nat.le_refl _) ?step ?fin
 case hsz => exact List.forall_mem_cons.2 ⟨(show 116 < 137 by decide), List.forall_mem_cons.2 ⟨(show 117 < 137 by decide), List.forall_mem_cons.2 ⟨(show 118 < 137 by decide), List.forall_mem_cons.2 ⟨(show 119 < 137 by decide), List.forall_mem_cons.2 ⟨(show 120 < 137 by decide), List.forall_mem_cons.2 ⟨(show 121 < 137 by decide), List.forall_mem_cons.2 ⟨(show 122 < 137 by decide), List.forall_mem_cons.2 ⟨(show 123 < 137 by decide), List.forall_mem_cons.2 ⟨(show 124 < 137 by decide), List.forall_mem_cons.2 ⟨(show 125 < 137 by decide), List.forall_mem_cons.2 ⟨(show 126 < 137 by decide), List.forall_mem_cons.2 ⟨(show 127 < 137 by decide), List.forall_mem_cons.2 ⟨(show 128 < 137 by decide), List.forall_mem_cons.2 ⟨(show 129 < 137 by decide), List.forall_mem_cons.2 ⟨(show 130 < 137 by decide), List.forall_mem_cons.2 ⟨(show 131 < 137 by decide), List.forall_mem_cons.2 ⟨(show 132 < 137 by decide), List.forall_mem_cons.2 ⟨(show 133 < 137 by decide), List.forall_mem_cons.2 ⟨(show 134 < 137 by decide), List.forall_mem_cons.2 ⟨(show 135 < 137 by decide), List.forall_mem_cons.2 ⟨(show 136 < 137 by decide), List.forall_mem_cons.2 ⟨(show 6 < 137 by decide), fun _ h => nomatch h⟩⟩⟩⟩⟩⟩⟩⟩⟩⟩⟩⟩⟩⟩⟩⟩⟩⟩⟩⟩⟩⟩
 case hst => exact List.forall_mem_cons.2 ⟨(fun v w1 w2 hb h => h), List.forall_mem_cons.2 ⟨(fun v w1 w2 hb h => h), List.forall_mem_cons.2 ⟨(fun v w1 w2 hb h => h), List.forall_mem_cons.2 ⟨(fun v w1 w2 hb h => h), List.forall_mem_cons.2 ⟨(fun v w1 w2 hb h => h), List.forall_mem_cons.2 ⟨(fun v w1 w2 hb h => h), List.forall_mem_cons.2 ⟨(fun v w1 w2 hb h => h), List.forall_mem_cons.2 ⟨(fun v w1 w2 hb h => h), List.forall_mem_cons.2 ⟨(fun v w1 w2 hb h => h), List.forall_mem_cons.2 ⟨(fun v w1 w2 hb h => h), List.forall_mem_cons.2 ⟨(fun v w1 w2 hb h => h), List.forall_mem_cons.2 ⟨(fun v w1 w2 hb h => h), List.forall_mem_cons.2 ⟨(fun v w1 w2 hb h => h), List.forall_mem_cons.2 ⟨(fun v w1 w2 hb h => h), List.forall_mem_cons.2 ⟨(fun v w1 w2 hb h => h), List.forall_mem_cons.2 ⟨(fun v w1 w2 hb h => h), List.forall_mem_cons.2 ⟨(fun v w1 w2 hb h => h), List.forall_mem_cons.2 ⟨(fun v w1 w2 hb h => h), List.forall_mem_cons.2 ⟨(fun v w1 w2 hb h => h), List.forall_mem_cons.2 ⟨(fun v w1 w2 hb h => h), List.forall_mem_cons.2 ⟨(fun v w1 w2 hb h => h), List.forall_mem_cons.2 ⟨(fun v w1 w2 hb h => h), fun _ h => nomatch h⟩⟩⟩⟩⟩⟩⟩⟩⟩⟩⟩⟩⟩⟩⟩⟩⟩⟩⟩⟩⟩⟩
 case step =>
  intro i_ o_ e_ ho he a w1_ hs hdf hfr hbl hbs hpre
  match i_, ho, he with
  | 0, ho, he => obtain rfl : o_ = ⟨_, _, _, _, _, _⟩ := (Option.some.inj ho).symm; obtain rfl := Option.some.inj he; clear he; have f3 : a.tmps.getD 3 undef = .pointer (some ⟨w.heap.size, 0, none⟩) := (by rw [Array.getD_eq_getD_getElem?, hfr 3 (show ¬ 3 ∈ ([116, 117, 118, 119, 120, 121, 122, 123, 124, 125, 126, 127, 128, 129, 130, 131, 132, 133, 134, 135, 136, 6] : List Nat) by decide)]; rfl); clear hpre hfr; have k_q0 := (hbl.cell (World.block_lt_of_cell? _ _ q0)).trans q0; have k_q1 := (hbl.cell (World.block_lt_of_cell? _ _ q1)).trans q1; have k_q2 := (hbl.cell (World.block_lt_of_cell? _ _ q2)).trans q2; have k_q3 := (hbl.cell (World.block_lt_of_cell? _ _ q3)).trans q3; have k_q4 := (hbl.cell (World.block_lt_of_cell? _ _ q4)).trans q4; have k_q5 := (hbl.cell (World.block_lt_of_cell? _ _ q5)).trans q5; have k_q6 := (hbl.cell (World.block_lt_of_cell? _ _ q6)).trans q6; have k_q7 := (hbl.cell (World.block_lt_of_cell? _ _ q7)).trans q7; have k_q8 := (hbl.cell (World.block_lt_of_cell? _ _ q8)).trans q8; have k_q9 := (hbl.cell (World.block_lt_of_cell? _ _ q9)).trans q9; have k_q10 := (hbl.cell (World.block_lt_of_cell? _ _ q10)).trans q10; have k_q11 := (hbl.cell (World.block_lt_of_cell? _ _ q11)).trans q11; refine wpOp_value (v := .agg #[.int .i64 a0_0, .int .i64 a0_1, .int .i64 a0_2, .int .i64 a0_3, .int .i64 a0_4, .int .i64 a0_5, .int .i64 a0_6, .int .i64 a0_7, .int .i64 a0_8, .int .i64 a0_9, .int .i64 a0_10, .slice A0_11 l0_11.length c0_11]) ho rfl ?_ ⟨_, rfl, rfl, Below.refl _ _⟩; simp only [execOp, Act.eval, List.map_toArray, List.map_cons, List.map_nil, f3]; first | rfl | (go_simp; done) | (go_simp; rfl) | (go_simp; intro h_; exfalso; omega)
  | 1, ho, he => obtain rfl : o_ = ⟨_, _, _, _, _, _⟩ := (Option.some.inj ho).symm; obtain rfl := Option.some.inj he; clear he; have e116 : a.tmps.getD 116 undef = .agg #[.int .i64 a0_0, .int .i64 a0_1, .int .i64 a0_2, .int .i64 a0_3, .int .i64 a0_4, .int .i64 a0_5, .int .i64 a0_6, .int .i64 a0_7, .int .i64 a0_8, .int .i64 a0_9, .int .i64 a0_10, .slice A0_11 l0_11.length c0_11] := hpre ⟨0, .data⟩ (by simp) rfl _ rfl; clear hpre hfr; refine wpOp_call (fn := Try.f15) ho rfl rfl rfl rfl #[.agg #[.int .i64 a0_0, .int .i64 a0_1, .int .i64 a0_2, .int .i64 a0_3, .int .i64 a0_4, .int .i64 a0_5, .int .i64 a0_6, .int .i64 a0_7, .int .i64 a0_8, .int .i64 a0_9, .int .i64 a0_10, .slice A0_11 l0_11.length c0_11]] rfl (by simp only [List.map_toArray, List.map_cons, List.map_nil, Act.eval, e116]) ?_; refine (message_Check.calls k a0_0 a0_1 a0_2 a0_3 a0_4 a0_5 a0_6 a0_7 a0_8 a0_9 a0_10 A0_11 c0_11 l0_11 c w1_ (Kd.C_below HRA.out hbl) HC0.out H11.out).mono ?_; rintro e w2 ⟨rfl, hb⟩; exact ⟨_, rfl, ⟨_, rfl, rfl, hb⟩⟩
  | 2, ho, he => obtain rfl : o_ = ⟨_, _, _, _, _, _⟩ := (Option.some.inj ho).symm; obtain rfl := Option.some.inj he; clear he; have e117 := hpre ⟨1, .data⟩ (by simp) rfl _ rfl; dsimp only at e117; clear hpre hfr; refine wpOp_call (fn := Try.f11) ho rfl rfl rfl rfl #[.int .i64 c] rfl (by simp only [List.map_toArray, List.map_cons, List.map_nil, Act.eval, e117]) ?_; refine (waybilllaw09_num.calls c c w1_ rfl).mono ?_; rintro e w2 ⟨rfl, hb⟩; exact ⟨_, rfl, ⟨_, rfl, rfl, hb.below⟩⟩
  | 3, ho, he => obtain rfl : o_ = ⟨_, _, _, _, _, _⟩ := (Option.some.inj ho).symm; obtain rfl := Option.some.inj he; clear he; have f3 : a.tmps.getD 3 undef = .pointer (some ⟨w.heap.size, 0, none⟩) := (by rw [Array.getD_eq_getD_getElem?, hfr 3 (show ¬ 3 ∈ ([116, 117, 118, 119, 120, 121, 122, 123, 124, 125, 126, 127, 128, 129, 130, 131, 132, 133, 134, 135, 136, 6] : List Nat) by decide)]; rfl); clear hpre hfr; have k_q0 := (hbl.cell (World.block_lt_of_cell? _ _ q0)).trans q0; have k_q1 := (hbl.cell (World.block_lt_of_cell? _ _ q1)).trans q1; have k_q2 := (hbl.cell (World.block_lt_of_cell? _ _ q2)).trans q2; have k_q3 := (hbl.cell (World.block_lt_of_cell? _ _ q3)).trans q3; have k_q4 := (hbl.cell (World.block_lt_of_cell? _ _ q4)).trans q4; have k_q5 := (hbl.cell (World.block_lt_of_cell? _ _ q5)).trans q5; have k_q6 := (hbl.cell (World.block_lt_of_cell? _ _ q6)).trans q6; have k_q7 := (hbl.cell (World.block_lt_of_cell? _ _ q7)).trans q7; have k_q8 := (hbl.cell (World.block_lt_of_cell? _ _ q8)).trans q8; have k_q9 := (hbl.cell (World.block_lt_of_cell? _ _ q9)).trans q9; have k_q10 := (hbl.cell (World.block_lt_of_cell? _ _ q10)).trans q10; have k_q11 := (hbl.cell (World.block_lt_of_cell? _ _ q11)).trans q11; refine wpOp_value (v := .agg #[.int .i64 a0_0, .int .i64 a0_1, .int .i64 a0_2, .int .i64 a0_3, .int .i64 a0_4, .int .i64 a0_5, .int .i64 a0_6, .int .i64 a0_7, .int .i64 a0_8, .int .i64 a0_9, .int .i64 a0_10, .slice A0_11 l0_11.length c0_11]) ho rfl ?_ ⟨_, rfl, rfl, Below.refl _ _⟩; simp only [execOp, Act.eval, List.map_toArray, List.map_cons, List.map_nil, f3]; first | rfl | (go_simp; done) | (go_simp; rfl) | (go_simp; intro h_; exfalso; omega)
  | 4, ho, he => obtain rfl : o_ = ⟨_, _, _, _, _, _⟩ := (Option.some.inj ho).symm; obtain rfl := Option.some.inj he; clear he; have e119 : a.tmps.getD 119 undef = .agg #[.int .i64 a0_0, .int .i64 a0_1, .int .i64 a0_2, .int .i64 a0_3, .int .i64 a0_4, .int .i64 a0_5, .int .i64 a0_6, .int .i64 a0_7, .int .i64 a0_8, .int .i64 a0_9, .int .i64 a0_10, .slice A0_11 l0_11.length c0_11] := hpre ⟨3, .data⟩ (by simp) rfl _ rfl; clear hpre hfr; refine wpOp_call (fn := Try.f25) ho rfl rfl rfl rfl #[.agg #[.int .i64 a0_0, .int .i64 a0_1, .int .i64 a0_2, .int .i64 a0_3, .int .i64 a0_4, .int .i64 a0_5, .int .i64 a0_6, .int .i64 a0_7, .int .i64 a0_8, .int .i64 a0_9, .int .i64 a0_10, .slice A0_11 l0_11.length c0_11]] rfl (by simp only [List.map_toArray, List.map_cons, List.map_nil, Act.eval, e119]) ?_; refine (waybillref09_Check.calls a0_0 a0_1 a0_2 a0_3 a0_4 a0_5 a0_6 a0_7 a0_8 a0_9 a0_10 A0_11 c0_11 l0_11 c w1_ (Kd.C_below HRA.out hbl) HC0.out H12.out).mono ?_; rintro e w2 ⟨rfl, hb⟩; exact ⟨_, rfl, ⟨_, rfl, rfl, hb⟩⟩
  | 5, ho, he => obtain rfl : o_ = ⟨_, _, _, _, _, _⟩ := (Option.some.inj ho).symm; obtain rfl := Option.some.inj he; clear he; have e118 := hpre ⟨2, .data⟩ (by simp) rfl _ rfl; dsimp only at e118; have e120 := hpre ⟨4, .data⟩ (by simp) rfl _ rfl; dsimp only at e120; clear hpre hfr; refine wpOp_value (v := .bool true) ho rfl ?_ ⟨_, rfl, rfl, Below.refl _ _⟩; simp only [execOp, Act.eval, List.map_toArray, List.map_cons, List.map_nil]; first | rfl | (go_simp; done) | (go_simp; rfl) | (go_simp; intro h_; exfalso; omega)
  | 6, ho, he => obtain rfl : o_ = ⟨_, _, _, _, _, _⟩ := (Option.some.inj ho).symm; obtain rfl := Option.some.inj he; clear he; have e121 : a.tmps.getD 121 undef = .bool true := hpre ⟨5, .data⟩ (by simp) rfl _ rfl; clear hpre hfr; refine wpOp_value (v := .bool true) ho rfl ?_ ⟨_, rfl, rfl, Below.refl _ _⟩; simp only [execOp, Act.eval, List.map_toArray, List.map_cons, List.map_nil, e121]; first | rfl | (go_simp; done) | (go_simp; rfl) | (go_simp; intro h_; exfalso; omega)
  | 7, ho, he => obtain rfl : o_ = ⟨_, _, _, _, _, _⟩ := (Option.some.inj ho).symm; obtain rfl := Option.some.inj he; clear he; have e122 : a.tmps.getD 122 undef = .bool true := hpre ⟨6, .guard⟩ (by simp) rfl _ rfl; have f3 : a.tmps.getD 3 undef = .pointer (some ⟨w.heap.size, 0, none⟩) := (by rw [Array.getD_eq_getD_getElem?, hfr 3 (show ¬ 3 ∈ ([116, 117, 118, 119, 120, 121, 122, 123, 124, 125, 126, 127, 128, 129, 130, 131, 132, 133, 134, 135, 136, 6] : List Nat) by decide)]; rfl); clear hpre hfr; have k_q0 := (hbl.cell (World.block_lt_of_cell? _ _ q0)).trans q0; have k_q1 := (hbl.cell (World.block_lt_of_cell? _ _ q1)).trans q1; have k_q2 := (hbl.cell (World.block_lt_of_cell? _ _ q2)).trans q2; have k_q3 := (hbl.cell (World.block_lt_of_cell? _ _ q3)).trans q3; have k_q4 := (hbl.cell (World.block_lt_of_cell? _ _ q4)).trans q4; have k_q5 := (hbl.cell (World.block_lt_of_cell? _ _ q5)).trans q5; have k_q6 := (hbl.cell (World.block_lt_of_cell? _ _ q6)).trans q6; have k_q7 := (hbl.cell (World.block_lt_of_cell? _ _ q7)).trans q7; have k_q8 := (hbl.cell (World.block_lt_of_cell? _ _ q8)).trans q8; have k_q9 := (hbl.cell (World.block_lt_of_cell? _ _ q9)).trans q9; have k_q10 := (hbl.cell (World.block_lt_of_cell? _ _ q10)).trans q10; have k_q11 := (hbl.cell (World.block_lt_of_cell? _ _ q11)).trans q11; refine wpOp_value_w (v := .agg #[.int .i64 a0_0, .int .i64 a0_1, .int .i64 a0_2, .int .i64 a0_3, .int .i64 a0_4, .int .i64 a0_5, .int .i64 a0_6, .int .i64 a0_7, .int .i64 a0_8, .int .i64 a0_9, .int .i64 a0_10, .slice A0_11 l0_11.length c0_11]) ho (wanted_of (n := 6) (d := 122) rfl rfl (by rw [hs]; exact (show 122 < 137 by decide)) e122) ?_ ⟨_, rfl, rfl, Below.refl _ _⟩; simp only [execOp, Act.eval, List.map_toArray, List.map_cons, List.map_nil, e122, f3]; first | rfl | (go_simp; done) | (go_simp; rfl) | (go_simp; intro h_; exfalso; omega)
  | 8, ho, he => obtain rfl : o_ = ⟨_, _, _, _, _, _⟩ := (Option.some.inj ho).symm; obtain rfl := Option.some.inj he; clear he; have e123 : a.tmps.getD 123 undef = .agg #[.int .i64 a0_0, .int .i64 a0_1, .int .i64 a0_2, .int .i64 a0_3, .int .i64 a0_4, .int .i64 a0_5, .int .i64 a0_6, .int .i64 a0_7, .int .i64 a0_8, .int .i64 a0_9, .int .i64 a0_10, .slice A0_11 l0_11.length c0_11] := hpre ⟨7, .data⟩ (by simp) rfl _ rfl; have e122 : a.tmps.getD 122 undef = .bool true := hpre ⟨6, .guard⟩ (by simp) rfl _ rfl; clear hpre hfr; refine wpOp_call_w (fn := Try.f26) ho (wanted_of (n := 6) (d := 122) rfl rfl (by rw [hs]; exact (show 122 < 137 by decide)) e122) rfl rfl rfl #[.agg #[.int .i64 a0_0, .int .i64 a0_1, .int .i64 a0_2, .int .i64 a0_3, .int .i64 a0_4, .int .i64 a0_5, .int .i64 a0_6, .int .i64 a0_7, .int .i64 a0_8, .int .i64 a0_9, .int .i64 a0_10, .slice A0_11 l0_11.length c0_11]] rfl (by simp only [List.map_toArray, List.map_cons, List.map_nil, Act.eval, e123]) ?_; refine (message_Back.calls k a0_0 a0_1 a0_2 a0_3 a0_4 a0_5 a0_6 a0_7 a0_8 a0_9 a0_10 A0_11 c0_11 l0_11 q w1_ (Kd.C_below HRA.out hbl) HC0.out H13.out).mono ?_; rintro e w2 ⟨rfl, hb⟩; exact ⟨_, rfl, ⟨_, rfl, rfl, hb⟩⟩
  | 9, ho, he => obtain rfl : o_ = ⟨_, _, _, _, _, _⟩ := (Option.some.inj ho).symm; obtain rfl := Option.some.inj he; clear he; have e122 : a.tmps.getD 122 undef = .bool true := hpre ⟨6, .guard⟩ (by simp) rfl _ rfl; have f3 : a.tmps.getD 3 undef = .pointer (some ⟨w.heap.size, 0, none⟩) := (by rw [Array.getD_eq_getD_getElem?, hfr 3 (show ¬ 3 ∈ ([116, 117, 118, 119, 120, 121, 122, 123, 124, 125, 126, 127, 128, 129, 130, 131, 132, 133, 134, 135, 136, 6] : List Nat) by decide)]; rfl); clear hpre hfr; have k_q0 := (hbl.cell (World.block_lt_of_cell? _ _ q0)).trans q0; have k_q1 := (hbl.cell (World.block_lt_of_cell? _ _ q1)).trans q1; have k_q2 := (hbl.cell (World.block_lt_of_cell? _ _ q2)).trans q2; have k_q3 := (hbl.cell (World.block_lt_of_cell? _ _ q3)).trans q3; have k_q4 := (hbl.cell (World.block_lt_of_cell? _ _ q4)).trans q4; have k_q5 := (hbl.cell (World.block_lt_of_cell? _ _ q5)).trans q5; have k_q6 := (hbl.cell (World.block_lt_of_cell? _ _ q6)).trans q6; have k_q7 := (hbl.cell (World.block_lt_of_cell? _ _ q7)).trans q7; have k_q8 := (hbl.cell (World.block_lt_of_cell? _ _ q8)).trans q8; have k_q9 := (hbl.cell (World.block_lt_of_cell? _ _ q9)).trans q9; have k_q10 := (hbl.cell (World.block_lt_of_cell? _ _ q10)).trans q10; have k_q11 := (hbl.cell (World.block_lt_of_cell? _ _ q11)).trans q11; refine wpOp_value_w (v := .agg #[.int .i64 a0_0, .int .i64 a0_1, .int .i64 a0_2, .int .i64 a0_3, .int .i64 a0_4, .int .i64 a0_5, .int .i64 a0_6, .int .i64 a0_7, .int .i64 a0_8, .int .i64 a0_9, .int .i64 a0_10, .slice A0_11 l0_11.length c0_11]) ho (wanted_of (n := 6) (d := 122) rfl rfl (by rw [hs]; exact (show 122 < 137 by decide)) e122) ?_ ⟨_, rfl, rfl, Below.refl _ _⟩; simp only [execOp, Act.eval, List.map_toArray, List.map_cons, List.map_nil, e122, f3]; first | rfl | (go_simp; done) | (go_simp; rfl) | (go_simp; intro h_; exfalso; omega)
  | 10, ho, he => obtain rfl : o_ = ⟨_, _, _, _, _, _⟩ := (Option.some.inj ho).symm; obtain rfl := Option.some.inj he; clear he; have e125 : a.tmps.getD 125 undef = .agg #[.int .i64 a0_0, .int .i64 a0_1, .int .i64 a0_2, .int .i64 a0_3, .int .i64 a0_4, .int .i64 a0_5, .int .i64 a0_6, .int .i64 a0_7, .int .i64 a0_8, .int .i64 a0_9, .int .i64 a0_10, .slice A0_11 l0_11.length c0_11] := hpre ⟨9, .data⟩ (by simp) rfl _ rfl; have e122 : a.tmps.getD 122 undef = .bool true := hpre ⟨6, .guard⟩ (by simp) rfl _ rfl; clear hpre hfr; refine wpOp_call_w (fn := Try.f27) ho (wanted_of (n := 6) (d := 122) rfl rfl (by rw [hs]; exact (show 122 < 137 by decide)) e122) rfl rfl rfl #[.agg #[.int .i64 a0_0, .int .i64 a0_1, .int .i64 a0_2, .int .i64 a0_3, .int .i64 a0_4, .int .i64 a0_5, .int .i64 a0_6, .int .i64 a0_7, .int .i64 a0_8, .int .i64 a0_9, .int .i64 a0_10, .slice A0_11 l0_11.length c0_11]] rfl (by simp only [List.map_toArray, List.map_cons, List.map_nil, Act.eval, e125]) ?_; refine (waybillref09_Back.calls k a0_0 a0_1 a0_2 a0_3 a0_4 a0_5 a0_6 a0_7 a0_8 a0_9 a0_10 A0_11 c0_11 l0_11 q w1_ (Kd.C_below HRA.out hbl) HC0.out H14.out).mono ?_; rintro e w2 ⟨rfl, hb⟩; exact ⟨_, rfl, ⟨_, rfl, rfl, hb⟩⟩
  | 11, ho, he => obtain rfl : o_ = ⟨_, _, _, _, _, _⟩ := (Option.some.inj ho).symm; obtain rfl := Option.some.inj he; clear he; have e124 := hpre ⟨8, .data⟩ (by simp) rfl _ rfl; dsimp only at e124; have e126 := hpre ⟨10, .data⟩ (by simp) rfl _ rfl; dsimp only at e126; have e122 : a.tmps.getD 122 undef = .bool true := hpre ⟨6, .guard⟩ (by simp) rfl _ rfl; clear hpre hfr; refine wpOp_value_w (v := .bool true) ho (wanted_of (n := 6) (d := 122) rfl rfl (by rw [hs]; exact (show 122 < 137 by decide)) e122) ?_ ⟨_, rfl, rfl, Below.refl _ _⟩; simp only [execOp, Act.eval, List.map_toArray, List.map_cons, List.map_nil, e122]; first | rfl | (go_simp; done) | (go_simp; rfl) | (go_simp; intro h_; exfalso; omega)
  | 12, ho, he => obtain rfl : o_ = ⟨_, _, _, _, _, _⟩ := (Option.some.inj ho).symm; obtain rfl := Option.some.inj he; clear he; have e122 : a.tmps.getD 122 undef = .bool true := hpre ⟨6, .data⟩ (by simp) rfl _ rfl; have e127 : a.tmps.getD 127 undef = .bool true := hpre ⟨11, .data⟩ (by simp) rfl _ rfl; clear hpre hfr; refine wpOp_value (v := .bool true) ho rfl ?_ ⟨_, rfl, rfl, Below.refl _ _⟩; simp only [execOp, Act.eval, List.map_toArray, List.map_cons, List.map_nil, e122, e127]; first | rfl | (go_simp; done) | (go_simp; rfl) | (go_simp; intro h_; exfalso; omega)
  | 13, ho, he => obtain rfl : o_ = ⟨_, _, _, _, _, _⟩ := (Option.some.inj ho).symm; obtain rfl := Option.some.inj he; clear he; have e128 : a.tmps.getD 128 undef = .bool true := hpre ⟨12, .data⟩ (by simp) rfl _ rfl; clear hpre hfr; refine wpOp_value (v := .bool true) ho rfl ?_ ⟨_, rfl, rfl, Below.refl _ _⟩; simp only [execOp, Act.eval, List.map_toArray, List.map_cons, List.map_nil, e128]; first | rfl | (go_simp; done) | (go_simp; rfl) | (go_simp; intro h_; exfalso; omega)
  | 14, ho, he => obtain rfl : o_ = ⟨_, _, _, _, _, _⟩ := (Option.some.inj ho).symm; obtain rfl := Option.some.inj he; clear he; have e129 : a.tmps.getD 129 undef = .bool true := hpre ⟨13, .guard⟩ (by simp) rfl _ rfl; have f7 : a.tmps.getD 7 undef = .slice Ab b.length cb := (by rw [Array.getD_eq_getD_getElem?, hfr 7 (show ¬ 7 ∈ ([116, 117, 118, 119, 120, 121, 122, 123, 124, 125, 126, 127, 128, 129, 130, 131, 132, 133, 134, 135, 136, 6] : List Nat) by decide)]; rfl); clear hpre hfr; refine wpOp_value_w (v := .slice Ab b.length cb) ho (wanted_of (n := 13) (d := 129) rfl rfl (by rw [hs]; exact (show 129 < 137 by decide)) e129) ?_ ⟨_, rfl, rfl, Below.refl _ _⟩; simp only [execOp, Act.eval, List.map_toArray, List.map_cons, List.map_nil, e129, f7]; first | rfl | (go_simp; done) | (go_simp; rfl) | (go_simp; intro h_; exfalso; omega)
  | 15, ho, he => obtain rfl : o_ = ⟨_, _, _, _, _, _⟩ := (Option.some.inj ho).symm; obtain rfl := Option.some.inj he; clear he; have e129 : a.tmps.getD 129 undef = .bool true := hpre ⟨13, .guard⟩ (by simp) rfl _ rfl; have f2 : a.tmps.getD 2 undef = .slice A2 b.length c2 := (by rw [Array.getD_eq_getD_getElem?, hfr 2 (show ¬ 2 ∈ ([116, 117, 118, 119, 120, 121, 122, 123, 124, 125, 126, 127, 128, 129, 130, 131, 132, 133, 134, 135, 136, 6] : List Nat) by decide)]; rfl); clear hpre hfr; refine wpOp_value_w (v := .slice A2 b.length c2) ho (wanted_of (n := 13) (d := 129) rfl rfl (by rw [hs]; exact (show 129 < 137 by decide)) e129) ?_ ⟨_, rfl, rfl, Below.refl _ _⟩; simp only [execOp, Act.eval, List.map_toArray, List.map_cons, List.map_nil, e129, f2]; first | rfl | (go_simp; done) | (go_simp; rfl) | (go_simp; intro h_; exfalso; omega)
  | 16, ho, he => obtain rfl : o_ = ⟨_, _, _, _, _, _⟩ := (Option.some.inj ho).symm; obtain rfl := Option.some.inj he; clear he; have e130 : a.tmps.getD 130 undef = .slice Ab b.length cb := hpre ⟨14, .data⟩ (by simp) rfl _ rfl; have e131 : a.tmps.getD 131 undef = .slice A2 b.length c2 := hpre ⟨15, .data⟩ (by simp) rfl _ rfl; have e129 : a.tmps.getD 129 undef = .bool true := hpre ⟨13, .guard⟩ (by simp) rfl _ rfl; clear hpre hfr; refine wpOp_call_w (fn := Try.f14) ho (wanted_of (n := 13) (d := 129) rfl rfl (by rw [hs]; exact (show 129 < 137 by decide)) e129) rfl rfl rfl #[.slice Ab b.length cb, .slice A2 b.length c2] rfl (by simp only [List.map_toArray, List.map_cons, List.map_nil, Act.eval, e130, e131]) ?_; refine (waybillplain_SameBytes.calls Ab cb b A2 c2 b true w1_ (Kd.C_below RB.out hbl) LB.out (Kd.C_below HRL.out hbl) HC2.out (sameB_self b)).mono ?_; rintro e w2 ⟨rfl, hb⟩; exact ⟨_, rfl, ⟨_, rfl, rfl, hb.below⟩⟩
  | 17, ho, he => obtain rfl : o_ = ⟨_, _, _, _, _, _⟩ := (Option.some.inj ho).symm; obtain rfl := Option.some.inj he; clear he; have e129 : a.tmps.getD 129 undef = .bool true := hpre ⟨13, .data⟩ (by simp) rfl _ rfl; have e132 := hpre ⟨16, .data⟩ (by simp) rfl _ rfl; dsimp only at e132; clear hpre hfr; refine wpOp_value (v := .bool true) ho rfl ?_ ⟨_, rfl, rfl, Below.refl _ _⟩; simp only [execOp, Act.eval, List.map_toArray, List.map_cons, List.map_nil, e129]; first | rfl | (go_simp; done) | (go_simp; rfl) | (go_simp; intro h_; exfalso; omega)
  | 18, ho, he => obtain rfl : o_ = ⟨_, _, _, _, _, _⟩ := (Option.some.inj ho).symm; obtain rfl := Option.some.inj he; clear he; have e133 : a.tmps.getD 133 undef = .bool true := hpre ⟨17, .data⟩ (by simp) rfl _ rfl; clear hpre hfr; refine wpOp_value (v := .bool true) ho rfl ?_ ⟨_, rfl, rfl, Below.refl _ _⟩; simp only [execOp, Act.eval, List.map_toArray, List.map_cons, List.map_nil, e133]; first | rfl | (go_simp; done) | (go_simp; rfl) | (go_simp; intro h_; exfalso; omega)
  | 19, ho, he => obtain rfl : o_ = ⟨_, _, _, _, _, _⟩ := (Option.some.inj ho).symm; obtain rfl := Option.some.inj he; clear he; have e134 : a.tmps.getD 134 undef = .bool true := hpre ⟨18, .guard⟩ (by simp) rfl _ rfl; clear hpre hfr; refine wpOp_call_w (fn := Try.f9) ho (wanted_of (n := 18) (d := 134) rfl rfl (by rw [hs]; exact (show 134 < 137 by decide)) e134) rfl rfl rfl #[] rfl (by simp only [List.map_toArray, List.map_cons, List.map_nil, Act.eval]) ?_; refine (waybilllaw09_alive.calls k true w1_ H15.out).mono ?_; rintro e w2 ⟨rfl, hb⟩; exact ⟨_, rfl, ⟨_, rfl, rfl, hb⟩⟩
  | 20, ho, he => obtain rfl : o_ = ⟨_, _, _, _, _, _⟩ := (Option.some.inj ho).symm; obtain rfl := Option.some.inj he; clear he; have e134 : a.tmps.getD 134 undef = .bool true := hpre ⟨18, .data⟩ (by simp) rfl _ rfl; have e135 := hpre ⟨19, .data⟩ (by simp) rfl _ rfl; dsimp only at e135; clear hpre hfr; refine wpOp_value (v := .bool true) ho rfl ?_ ⟨_, rfl, rfl, Below.refl _ _⟩; simp only [execOp, Act.eval, List.map_toArray, List.map_cons, List.map_nil, e134]; first | rfl | (go_simp; done) | (go_simp; rfl) | (go_simp; intro h_; exfalso; omega)
  | 21, ho, he => obtain rfl : o_ = ⟨_, _, _, _, _, _⟩ := (Option.some.inj ho).symm; obtain rfl := Option.some.inj he; clear he; have e136 : a.tmps.getD 136 undef = .bool true := hpre ⟨20, .data⟩ (by simp) rfl _ rfl; clear hpre hfr; refine wpOp_value (v := .bool true) ho rfl ?_ ⟨_, rfl, rfl, Below.refl _ _⟩; simp only [execOp, Act.eval, List.map_toArray, List.map_cons, List.map_nil, e136]; first | rfl | (go_simp; done) | (go_simp; rfl) | (go_simp; intro h_; exfalso; omega)
  | n_ + 22, ho, he => simp at he
 case fin =>
  intro xv_ w1_ hbl hx
  simp only [List.forall_mem_cons] at hx
  obtain ⟨x116, x117, x118, x119, x120, x121, x122, x123, x124, x125, x126, x127, x128, x129, x130, x131, x132, x133, x134, x135, x136, x6, _⟩ := hx
  simp only [List.map_cons, List.map_nil, putL, Act.put, List.setIfInBounds_toArray, List.set_cons_zero, List.set_cons_succ, x116, x117, x118, x119, x120, x121, x122, x123, x124, x125, x126, x127, x128, x129, x130, x131, x132, x133, x134, x135, x136, x6]
  clear x116 x117 x118 x119 x120 x121 x122 x123 x124 x125 x126 x127 x128 x129 x130 x131 x132 x133 x134 x135 x136 x6
  replace HB := Aside0.mk (below_then HB.out HB.out.size hbl)
  clear hbl
  go_wp2_with fail
  go_ret
  exact ⟨rfl, HB.out⟩
end Go.Proofs.Ytkddlhcpplkpbaa.G
end
