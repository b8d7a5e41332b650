/- MessageUses: texts of this claim, packed: what the kit's print has written for it and own texts, without what its proof does not reach. -/
import Derived.Test.YtkddlhcpplkpbaaKMessageUses13
import Derived.Test.YtkddlhcpplkpbaaKMessageUses17
import Derived.Test.YtkddlhcpplkpbaaKMessageUses18
import Derived.Test.YtkddlhcpplkpbaaKMessageUses20
import Derived.Test.YtkddlhcpplkpbaaKMessageUses21
import Derived.Test.YtkddlhcpplkpbaaKMessageUses24
set_option linter.unusedVariables false
set_option linter.unusedSimpArgs false
set_option linter.unusedSectionVars false
section
namespace Go.Proofs.Ytkddlhcpplkpbaa.G
open WB Go.RowKit Go.Proofs.YtkddlhcpplkpbaaW.PrintWords Go.Proofs.YtkddlhcpplkpbaaW.PrintLast Go.Proofs.YtkddlhcpplkpbaaW.PrintMore
attribute [local go_sem] max2_int min2_int max_two min_two max_three min_three max_four min_four   -- for this text's walks alone
set_option linter.unusedVariables false
set_option linter.unusedSimpArgs false
/-- What a kind uses, as the law tells it: a number of it. -/
def lawF (k : Int) (j : Nat) (x : Int) : Int := if k = 1 ∨ k = 8 then (if j = 1 ∨ j = 2 ∨ j = 7 then x else 0) else if k = 6 ∨ k = 7 then (if j ≤ 5 then x else 0) else x
def lawD (k : Int) (l : List Int) : List Int := if k = 3 ∨ k = 4 then l else []
def waybilllaw09_MessageUses.f (k : Nat) (a0_0 : Int) (a0_1 : Int) (a0_2 : Int) (a0_3 : Int) (a0_4 : Int) (a0_5 : Int) (a0_6 : Int) (a0_7 : Int) (a0_8 : Int) (a0_9 : Int) (a0_10 : Int) (l0_11 : List Int) : Option (Bool) := (waybilllaw09_alive.f k).bind fun al => if al = true then (message_Encode.f k a0_0 a0_1 a0_2 a0_3 a0_4 a0_5 a0_6 a0_7 a0_8 a0_9 a0_10 l0_11).bind fun b => (if b.2 = 23 ∨ b.2 = 4 ∨ b.2 = 5 then some (decide (b.1.length = 0)) else (waybillplain_SameMsg.f a0_0 (lawF a0_0 1 a0_1) (lawF a0_0 2 a0_2) (lawF a0_0 3 a0_3) (lawF a0_0 4 a0_4) (lawF a0_0 5 a0_5) (lawF a0_0 6 a0_6) (lawF a0_0 7 a0_7) (lawF a0_0 8 a0_8) (lawF a0_0 9 a0_9) (lawF a0_0 10 a0_10) (lawD a0_0 l0_11) a0_0 a0_1 a0_2 a0_3 a0_4 a0_5 a0_6 a0_7 a0_8 a0_9 a0_10 l0_11).bind fun s => if s = true then some true else if b.2 = 9 then (if a0_0 = 2 ∨ a0_0 = 5 then some true else (message_Check.f k a0_0 (lawF a0_0 1 a0_1) (lawF a0_0 2 a0_2) (lawF a0_0 3 a0_3) (lawF a0_0 4 a0_4) (lawF a0_0 5 a0_5) (lawF a0_0 6 a0_6) (lawF a0_0 7 a0_7) (lawF a0_0 8 a0_8) (lawF a0_0 9 a0_9) (lawF a0_0 10 a0_10) (lawD a0_0 l0_11)).bind fun c => some (decide (c = 0))) else some false) else some false
set_option maxHeartbeats 8000000 in
set_option maxRecDepth 100000 in
theorem waybilllaw09_MessageUses.calls (k : Nat) (a0_0 : Int) (a0_1 : Int) (a0_2 : Int) (a0_3 : Int) (a0_4 : Int) (a0_5 : Int) (a0_6 : Int) (a0_7 : Int) (a0_8 : Int) (a0_9 : Int) (a0_10 : Int) (A0_11 : Option Addr) (c0_11 : Nat) (l0_11 : List Int) (r : Bool) (w : World) (hr0_11 : Kd.C (Kd.int .u8) w A0_11 l0_11.length l0_11) (hc0_11 : l0_11.length ≤ c0_11) (h : waybilllaw09_MessageUses.f k a0_0 a0_1 a0_2 a0_3 a0_4 a0_5 a0_6 a0_7 a0_8 a0_9 a0_10 l0_11 = some r) (hrt : r = true) :
    Calls Try.prog 4 #[.agg #[.int .i64 a0_0, .int .i64 a0_1, .int .i64 a0_2, .int .i64 a0_3, .int .i64 a0_4, .int .i64 a0_5, .int .i64 a0_6, .int .i64 a0_7, .int .i64 a0_8, .int .i64 a0_9, .int .i64 a0_10, .slice A0_11 l0_11.length c0_11]] w fun e w' => e = .returned (.bool r) ∧ Below w.heap.size w w' := by
  subst hrt
  unfold waybilllaw09_MessageUses.f at h
  have HR := Aside0.mk hr0_11
  have HC := Aside0.mk hc0_11
  obtain ⟨al, hal, h⟩ := Option.bind_eq_some_iff.1 h
  cases al with
  | false => cases h
  | true =>
  have HAL := Aside0.mk hal
  obtain ⟨⟨b, eb⟩, hbe, h⟩ := Option.bind_eq_some_iff.1 ((if_pos rfl).symm.trans h)
  have HBE := Aside0.mk hbe
  have HH := Aside0.mk h
  clear hal hbe h hr0_11 hc0_11
  go_enter Try.func4, Try.ntmps4
  go_wp2_with fail
  go_at_call 9
  obtain ⟨W0, hW0⟩ : ∃ W, W = w.alloc (.cells #[.int .i64 a0_0, .int .i64 a0_1, .int .i64 a0_2, .int .i64 a0_3, .int .i64 a0_4, .int .i64 a0_5, .int .i64 a0_6, .int .i64 a0_7, .int .i64 a0_8, .int .i64 a0_9, .int .i64 a0_10, .slice A0_11 l0_11.length c0_11] 25) := ⟨_, rfl⟩
  rw [← hW0]
  have BM := Aside0.mk (show W0.heap[w.heap.size]? = some (.cells #[.int .i64 a0_0, .int .i64 a0_1, .int .i64 a0_2, .int .i64 a0_3, .int .i64 a0_4, .int .i64 a0_5, .int .i64 a0_6, .int .i64 a0_7, .int .i64 a0_8, .int .i64 a0_9, .int .i64 a0_10, .slice A0_11 l0_11.length c0_11] 25 (0, 0)) by rw [hW0]; exact heap_new1 _ _)
  have HB := Aside0.mk (show Below w.heap.size w W0 by rw [hW0]; exact below_alloc (Below.refl _ _) _)
  clear hW0
  with_reducible refine (waybilllaw09_alive.calls k true _ HAL.out).mono ?_
  rintro e w1 ⟨rfl, hb⟩
  have BM1 := Aside0.mk (blk_below BM.out hb)
  have HB1 := Aside0.mk (below_then HB.out HB.out.size hb)
  clear hb BM HB
  have q0 : w1.cell? ⟨w.heap.size, 0, none⟩ = some (.int .i64 a0_0) := (blk_cell BM1.out 0).trans rfl
  have q1 : w1.cell? ⟨w.heap.size, 1, none⟩ = some (.int .i64 a0_1) := (blk_cell BM1.out 1).trans rfl
  have q2 : w1.cell? ⟨w.heap.size, 2, none⟩ = some (.int .i64 a0_2) := (blk_cell BM1.out 2).trans rfl
  have q3 : w1.cell? ⟨w.heap.size, 3, none⟩ = some (.int .i64 a0_3) := (blk_cell BM1.out 3).trans rfl
  have q4 : w1.cell? ⟨w.heap.size, 4, none⟩ = some (.int .i64 a0_4) := (blk_cell BM1.out 4).trans rfl
  have q5 : w1.cell? ⟨w.heap.size, 5, none⟩ = some (.int .i64 a0_5) := (blk_cell BM1.out 5).trans rfl
  have q6 : w1.cell? ⟨w.heap.size, 6, none⟩ = some (.int .i64 a0_6) := (blk_cell BM1.out 6).trans rfl
  have q7 : w1.cell? ⟨w.heap.size, 7, none⟩ = some (.int .i64 a0_7) := (blk_cell BM1.out 7).trans rfl
  have q8 : w1.cell? ⟨w.heap.size, 8, none⟩ = some (.int .i64 a0_8) := (blk_cell BM1.out 8).trans rfl
  have q9 : w1.cell? ⟨w.heap.size, 9, none⟩ = some (.int .i64 a0_9) := (blk_cell BM1.out 9).trans rfl
  have q10 : w1.cell? ⟨w.heap.size, 10, none⟩ = some (.int .i64 a0_10) := (blk_cell BM1.out 10).trans rfl
  have q11 : w1.cell? ⟨w.heap.size, 11, none⟩ = some (.slice A0_11 l0_11.length c0_11) := (blk_cell BM1.out 11).trans rfl
  go_wp2_with fail
  go_at_call 13
  with_reducible refine (message_Encode.calls k a0_0 a0_1 a0_2 a0_3 a0_4 a0_5 a0_6 a0_7 a0_8 a0_9 a0_10 A0_11 c0_11 l0_11 b eb _ (Kd.C_below HR.out HB1.out) HC.out HBE.out).mono ?_
  rintro e w2 ⟨v2, rfl, hr2, hb⟩
  obtain ⟨A2, c2, rfl⟩ := Kd.R_slice hr2
  have BM2 := Aside0.mk (blk_below BM1.out hb)
  have HB2 := Aside0.mk (below_then HB1.out HB1.out.size hb)
  clear hb BM1 HB1 hr2 q0 q1 q2 q3 q4 q5 q6 q7 q8 q9 q10 q11
  go_wp2_with fail
  go_at_call 11
  with_reducible refine (waybilllaw09_num.calls eb eb _ rfl).mono ?_
  rintro e w3 ⟨rfl, hd⟩
  have BM3 := Aside0.mk (blk_below BM2.out hd.below)
  have HB3 := Aside0.mk (below_then HB2.out HB2.out.size hd.below)
  clear hd BM2 HB2
  by_cases e23 : eb = 23
  · have hl := Option.some.inj ((if_pos (Or.inl e23)).symm.trans HH.out)
    have hl0 : b.length = 0 := of_decide_eq_true hl
    have hl1 : ((b.length : Int) == 0) = true := by rw [hl0]; rfl
    have hl2 : (b.length == 0) = true := by rw [hl0]; rfl
    have x1 : (eb == 23) = true := beq_iff_eq.mpr e23
    clear hl hl0 HH e23
    go_wp2_with fail
    go_ret
    exact ⟨by first | rfl | (simp [*]; done), HB3.out⟩
  have x1 : (eb == 23) = false := beq_eq_false_iff_ne.mpr e23
  go_wp2_with fail
  go_at_call 11
  with_reducible refine (waybilllaw09_num.calls eb eb _ rfl).mono ?_
  rintro e w4 ⟨rfl, hd⟩
  have BM4 := Aside0.mk (blk_below BM3.out hd.below)
  have HB4 := Aside0.mk (below_then HB3.out HB3.out.size hd.below)
  clear hd BM3 HB3
  by_cases e4 : eb = 4
  · have hl := Option.some.inj ((if_pos (Or.inr (Or.inl e4))).symm.trans HH.out)
    have hl0 : b.length = 0 := of_decide_eq_true hl
    have hl1 : ((b.length : Int) == 0) = true := by rw [hl0]; rfl
    have hl2 : (b.length == 0) = true := by rw [hl0]; rfl
    have x2 : (eb == 4) = true := beq_iff_eq.mpr e4
    clear hl hl0 HH e23 e4
    go_wp2_with fail
    go_ret
    exact ⟨by first | rfl | (simp [*]; done), HB4.out⟩
  have x2 : (eb == 4) = false := beq_eq_false_iff_ne.mpr e4
  go_wp2_with fail
  go_at_call 11
  with_reducible refine (waybilllaw09_num.calls eb eb _ rfl).mono ?_
  rintro e w5 ⟨rfl, hd⟩
  have BM5 := Aside0.mk (blk_below BM4.out hd.below)
  have HB5 := Aside0.mk (below_then HB4.out HB4.out.size hd.below)
  clear hd BM4 HB4
  by_cases e5 : eb = 5
  · have hl := Option.some.inj ((if_pos (Or.inr (Or.inr e5))).symm.trans HH.out)
    have hl0 : b.length = 0 := of_decide_eq_true hl
    have hl1 : ((b.length : Int) == 0) = true := by rw [hl0]; rfl
    have hl2 : (b.length == 0) = true := by rw [hl0]; rfl
    have x3 : (eb == 5) = true := beq_iff_eq.mpr e5
    clear hl hl0 HH e23 e4 e5
    go_wp2_with fail
    go_ret
    exact ⟨by first | rfl | (simp [*]; done), HB5.out⟩
  have x3 : (eb == 5) = false := beq_eq_false_iff_ne.mpr e5
  obtain ⟨s, hs, hh⟩ := Option.bind_eq_some_iff.1 ((if_neg (fun h => h.elim e23 (fun h => h.elim e4 e5))).symm.trans HH.out)
  have HS := Aside0.mk hs
  have HH2 := Aside0.mk hh
  clear hs hh HH e23 e4 e5
  have q0 : w5.cell? ⟨w.heap.size, 0, none⟩ = some (.int .i64 a0_0) := (blk_cell BM5.out 0).trans rfl
  have q1 : w5.cell? ⟨w.heap.size, 1, none⟩ = some (.int .i64 a0_1) := (blk_cell BM5.out 1).trans rfl
  have q2 : w5.cell? ⟨w.heap.size, 2, none⟩ = some (.int .i64 a0_2) := (blk_cell BM5.out 2).trans rfl
  have q3 : w5.cell? ⟨w.heap.size, 3, none⟩ = some (.int .i64 a0_3) := (blk_cell BM5.out 3).trans rfl
  have q4 : w5.cell? ⟨w.heap.size, 4, none⟩ = some (.int .i64 a0_4) := (blk_cell BM5.out 4).trans rfl
  have q5 : w5.cell? ⟨w.heap.size, 5, none⟩ = some (.int .i64 a0_5) := (blk_cell BM5.out 5).trans rfl
  have q6 : w5.cell? ⟨w.heap.size, 6, none⟩ = some (.int .i64 a0_6) := (blk_cell BM5.out 6).trans rfl
  have q7 : w5.cell? ⟨w.heap.size, 7, none⟩ = some (.int .i64 a0_7) := (blk_cell BM5.out 7).trans rfl
  have q8 : w5.cell? ⟨w.heap.size, 8, none⟩ = some (.int .i64 a0_8) := (blk_cell BM5.out 8).trans rfl
  have q9 : w5.cell? ⟨w.heap.size, 9, none⟩ = some (.int .i64 a0_9) := (blk_cell BM5.out 9).trans rfl
  have q10 : w5.cell? ⟨w.heap.size, 10, none⟩ = some (.int .i64 a0_10) := (blk_cell BM5.out 10).trans rfl
  have q11 : w5.cell? ⟨w.heap.size, 11, none⟩ = some (.slice A0_11 l0_11.length c0_11) := (blk_cell BM5.out 11).trans rfl
  go_upto_region 7 with fail
  obtain ⟨w6, hw6⟩ : ∃ W, W = w5.alloc (.cells #[.int .i64 a0_0, .int .i64 a0_1, .int .i64 a0_2, .int .i64 a0_3, .int .i64 a0_4, .int .i64 a0_5, .int .i64 a0_6, .int .i64 a0_7, .int .i64 a0_8, .int .i64 a0_9, .int .i64 a0_10, .slice A0_11 l0_11.length c0_11] 25) := ⟨_, rfl⟩
  obtain ⟨gx, hgx⟩ : ∃ g, g = w5.heap.size := ⟨_, rfl⟩
  rw [← hw6, ← hgx]
  have BM6 := Aside0.mk (show w6.heap[w.heap.size]? = some (.cells #[.int .i64 a0_0, .int .i64 a0_1, .int .i64 a0_2, .int .i64 a0_3, .int .i64 a0_4, .int .i64 a0_5, .int .i64 a0_6, .int .i64 a0_7, .int .i64 a0_8, .int .i64 a0_9, .int .i64 a0_10, .slice A0_11 l0_11.length c0_11] 25 (0, 0)) by rw [hw6]; exact blk_alloc BM5.out _)
  have BX6 := Aside0.mk (show w6.heap[gx]? = some (.cells #[.int .i64 a0_0, .int .i64 a0_1, .int .i64 a0_2, .int .i64 a0_3, .int .i64 a0_4, .int .i64 a0_5, .int .i64 a0_6, .int .i64 a0_7, .int .i64 a0_8, .int .i64 a0_9, .int .i64 a0_10, .slice A0_11 l0_11.length c0_11] 25 (0, 0)) by rw [hw6, hgx]; exact heap_new1 _ _)
  have HB6 := Aside0.mk (show Below w.heap.size w w6 by rw [hw6]; exact below_alloc HB5.out _)
  have HGX : w.heap.size < gx := by rw [hgx]; exact blk_lt BM5.out
  clear hw6 hgx BM5 HB5 q0 q1 q2 q3 q4 q5 q6 q7 q8 q9 q10 q11
  have q0 : w6.cell? ⟨w.heap.size, 0, none⟩ = some (.int .i64 a0_0) := (blk_cell BM6.out 0).trans rfl
  have q1 : w6.cell? ⟨w.heap.size, 1, none⟩ = some (.int .i64 a0_1) := (blk_cell BM6.out 1).trans rfl
  have q2 : w6.cell? ⟨w.heap.size, 2, none⟩ = some (.int .i64 a0_2) := (blk_cell BM6.out 2).trans rfl
  have q3 : w6.cell? ⟨w.heap.size, 3, none⟩ = some (.int .i64 a0_3) := (blk_cell BM6.out 3).trans rfl
  have q4 : w6.cell? ⟨w.heap.size, 4, none⟩ = some (.int .i64 a0_4) := (blk_cell BM6.out 4).trans rfl
  have q5 : w6.cell? ⟨w.heap.size, 5, none⟩ = some (.int .i64 a0_5) := (blk_cell BM6.out 5).trans rfl
  have q6 : w6.cell? ⟨w.heap.size, 6, none⟩ = some (.int .i64 a0_6) := (blk_cell BM6.out 6).trans rfl
  have q7 : w6.cell? ⟨w.heap.size, 7, none⟩ = some (.int .i64 a0_7) := (blk_cell BM6.out 7).trans rfl
  have q8 : w6.cell? ⟨w.heap.size, 8, none⟩ = some (.int .i64 a0_8) := (blk_cell BM6.out 8).trans rfl
  have q9 : w6.cell? ⟨w.heap.size, 9, none⟩ = some (.int .i64 a0_9) := (blk_cell BM6.out 9).trans rfl
  have q10 : w6.cell? ⟨w.heap.size, 10, none⟩ = some (.int .i64 a0_10) := (blk_cell BM6.out 10).trans rfl
  have q11 : w6.cell? ⟨w.heap.size, 11, none⟩ = some (.slice A0_11 l0_11.length c0_11) := (blk_cell BM6.out 11).trans rfl
  have xc0 : w6.cell? ⟨gx, 0, none⟩ = some (.int .i64 a0_0) := (blk_cell BX6.out 0).trans rfl
  have xf0 : w6.frozen? ⟨gx, 0, none⟩ = false := blk_frozen BX6.out 0
  have xc1 : w6.cell? ⟨gx, 1, none⟩ = some (.int .i64 a0_1) := (blk_cell BX6.out 1).trans rfl
  have xf1 : w6.frozen? ⟨gx, 1, none⟩ = false := blk_frozen BX6.out 1
  have xc2 : w6.cell? ⟨gx, 2, none⟩ = some (.int .i64 a0_2) := (blk_cell BX6.out 2).trans rfl
  have xf2 : w6.frozen? ⟨gx, 2, none⟩ = false := blk_frozen BX6.out 2
  have xc3 : w6.cell? ⟨gx, 3, none⟩ = some (.int .i64 a0_3) := (blk_cell BX6.out 3).trans rfl
  have xf3 : w6.frozen? ⟨gx, 3, none⟩ = false := blk_frozen BX6.out 3
  have xc4 : w6.cell? ⟨gx, 4, none⟩ = some (.int .i64 a0_4) := (blk_cell BX6.out 4).trans rfl
  have xf4 : w6.frozen? ⟨gx, 4, none⟩ = false := blk_frozen BX6.out 4
  have xc5 : w6.cell? ⟨gx, 5, none⟩ = some (.int .i64 a0_5) := (blk_cell BX6.out 5).trans rfl
  have xf5 : w6.frozen? ⟨gx, 5, none⟩ = false := blk_frozen BX6.out 5
  have xc6 : w6.cell? ⟨gx, 6, none⟩ = some (.int .i64 a0_6) := (blk_cell BX6.out 6).trans rfl
  have xf6 : w6.frozen? ⟨gx, 6, none⟩ = false := blk_frozen BX6.out 6
  have xc7 : w6.cell? ⟨gx, 7, none⟩ = some (.int .i64 a0_7) := (blk_cell BX6.out 7).trans rfl
  have xf7 : w6.frozen? ⟨gx, 7, none⟩ = false := blk_frozen BX6.out 7
  have xc8 : w6.cell? ⟨gx, 8, none⟩ = some (.int .i64 a0_8) := (blk_cell BX6.out 8).trans rfl
  have xf8 : w6.frozen? ⟨gx, 8, none⟩ = false := blk_frozen BX6.out 8
  have xc9 : w6.cell? ⟨gx, 9, none⟩ = some (.int .i64 a0_9) := (blk_cell BX6.out 9).trans rfl
  have xf9 : w6.frozen? ⟨gx, 9, none⟩ = false := blk_frozen BX6.out 9
  have xc10 : w6.cell? ⟨gx, 10, none⟩ = some (.int .i64 a0_10) := (blk_cell BX6.out 10).trans rfl
  have xf10 : w6.frozen? ⟨gx, 10, none⟩ = false := blk_frozen BX6.out 10
  have xc11 : w6.cell? ⟨gx, 11, none⟩ = some (.slice A0_11 l0_11.length c0_11) := (blk_cell BX6.out 11).trans rfl
  have xf11 : w6.frozen? ⟨gx, 11, none⟩ = false := blk_frozen BX6.out 11
  by_cases k1 : a0_0 = 1
  · subst k1
    have hs := HS.out
    have hh2 := HH2.out
    simp only [(show lawF 1 1 a0_1 = a0_1 from by unfold lawF; simp), (show lawF 1 2 a0_2 = a0_2 from by unfold lawF; simp), (show lawF 1 3 a0_3 = 0 from by unfold lawF; simp), (show lawF 1 4 a0_4 = 0 from by unfold lawF; simp), (show lawF 1 5 a0_5 = 0 from by unfold lawF; simp), (show lawF 1 6 a0_6 = 0 from by unfold lawF; simp), (show lawF 1 7 a0_7 = a0_7 from by unfold lawF; simp), (show lawF 1 8 a0_8 = 0 from by unfold lawF; simp), (show lawF 1 9 a0_9 = 0 from by unfold lawF; simp), (show lawF 1 10 a0_10 = 0 from by unfold lawF; simp), (show lawD 1 l0_11 = ([] : List Int) from by unfold lawD; simp)] at hs hh2
    have HS3 := Aside0.mk hs
    have HH3 := Aside0.mk hh2
    clear hs hh2 HS HH2
    go_upto_region 13 with fail
    obtain ⟨w7, hw7⟩ : ∃ W, W = (((((((((((((w6.setCell ⟨gx, 0, none⟩ (.int .i64 1)).setCell ⟨gx, 1, none⟩ (.int .i64 a0_1)).setCell ⟨gx, 2, none⟩ (.int .i64 a0_2)).setCell ⟨gx, 3, none⟩ (.int .i64 0)).setCell ⟨gx, 4, none⟩ (.int .i64 0)).setCell ⟨gx, 5, none⟩ (.int .i64 0)).setCell ⟨gx, 6, none⟩ (.int .i64 0)).setCell ⟨gx, 7, none⟩ (.int .i64 a0_7)).setCell ⟨gx, 8, none⟩ (.int .i64 0)).setCell ⟨gx, 9, none⟩ (.int .i64 0)).setCell ⟨gx, 10, none⟩ (.int .i64 0)).setCell ⟨gx, 11, none⟩ (.slice none 0 0)).setCell ⟨gx, 11, none⟩ (.slice none 0 0)) := ⟨_, rfl⟩
    rw [← hw7]
    have BX7 := Aside0.mk (show w7.heap[gx]? = some (.cells #[.int .i64 1, .int .i64 a0_1, .int .i64 a0_2, .int .i64 0, .int .i64 0, .int .i64 0, .int .i64 0, .int .i64 a0_7, .int .i64 0, .int .i64 0, .int .i64 0, .slice none 0 0] 25 (0, 0)) by rw [hw7]; exact blk_put (msg_fill2 BX6.out 1 a0_1 a0_2 0 0 0 0 a0_7 0 0 0 (.slice none 0 0)) 11 _ rfl)
    have BM7 := Aside0.mk (show w7.heap[w.heap.size]? = some (.cells #[.int .i64 1, .int .i64 a0_1, .int .i64 a0_2, .int .i64 a0_3, .int .i64 a0_4, .int .i64 a0_5, .int .i64 a0_6, .int .i64 a0_7, .int .i64 a0_8, .int .i64 a0_9, .int .i64 a0_10, .slice A0_11 l0_11.length c0_11] 25 (0, 0)) by rw [hw7]; exact blk_far ((fill_keep (W := w6) (g := gx) 1 a0_1 a0_2 0 0 0 0 a0_7 0 0 0 (.slice none 0 0) w.heap.size (show w.heap.size ≠ gx by omega)).trans BM6.out) (by show w.heap.size ≠ gx; omega) _)
    have HB7 := Aside0.mk (show Below w.heap.size w w7 by rw [hw7]; exact below_set (fillB HB6.out (show w.heap.size ≤ gx by omega) 1 a0_1 a0_2 0 0 0 0 a0_7 0 0 0 (.slice none 0 0)) (show w.heap.size ≤ gx by omega))
    clear hw7 BX6 BM6 HB6 q0 xc0 q1 xc1 q2 xc2 q3 xc3 q4 xc4 q5 xc5 q6 xc6 q7 xc7 q8 xc8 q9 xc9 q10 xc10 q11 xc11 xf0 xf1 xf2 xf3 xf4 xf5 xf6 xf7 xf8 xf9 xf10 xf11
    have q0 : w7.cell? ⟨w.heap.size, 0, none⟩ = some (.int .i64 1) := (blk_cell BM7.out 0).trans rfl
    have xc0 : w7.cell? ⟨gx, 0, none⟩ = some (.int .i64 1) := (blk_cell BX7.out 0).trans rfl
    have q1 : w7.cell? ⟨w.heap.size, 1, none⟩ = some (.int .i64 a0_1) := (blk_cell BM7.out 1).trans rfl
    have xc1 : w7.cell? ⟨gx, 1, none⟩ = some (.int .i64 a0_1) := (blk_cell BX7.out 1).trans rfl
    have q2 : w7.cell? ⟨w.heap.size, 2, none⟩ = some (.int .i64 a0_2) := (blk_cell BM7.out 2).trans rfl
    have xc2 : w7.cell? ⟨gx, 2, none⟩ = some (.int .i64 a0_2) := (blk_cell BX7.out 2).trans rfl
    have q3 : w7.cell? ⟨w.heap.size, 3, none⟩ = some (.int .i64 a0_3) := (blk_cell BM7.out 3).trans rfl
    have xc3 : w7.cell? ⟨gx, 3, none⟩ = some (.int .i64 0) := (blk_cell BX7.out 3).trans rfl
    have q4 : w7.cell? ⟨w.heap.size, 4, none⟩ = some (.int .i64 a0_4) := (blk_cell BM7.out 4).trans rfl
    have xc4 : w7.cell? ⟨gx, 4, none⟩ = some (.int .i64 0) := (blk_cell BX7.out 4).trans rfl
    have q5 : w7.cell? ⟨w.heap.size, 5, none⟩ = some (.int .i64 a0_5) := (blk_cell BM7.out 5).trans rfl
    have xc5 : w7.cell? ⟨gx, 5, none⟩ = some (.int .i64 0) := (blk_cell BX7.out 5).trans rfl
    have q6 : w7.cell? ⟨w.heap.size, 6, none⟩ = some (.int .i64 a0_6) := (blk_cell BM7.out 6).trans rfl
    have xc6 : w7.cell? ⟨gx, 6, none⟩ = some (.int .i64 0) := (blk_cell BX7.out 6).trans rfl
    have q7 : w7.cell? ⟨w.heap.size, 7, none⟩ = some (.int .i64 a0_7) := (blk_cell BM7.out 7).trans rfl
    have xc7 : w7.cell? ⟨gx, 7, none⟩ = some (.int .i64 a0_7) := (blk_cell BX7.out 7).trans rfl
    have q8 : w7.cell? ⟨w.heap.size, 8, none⟩ = some (.int .i64 a0_8) := (blk_cell BM7.out 8).trans rfl
    have xc8 : w7.cell? ⟨gx, 8, none⟩ = some (.int .i64 0) := (blk_cell BX7.out 8).trans rfl
    have q9 : w7.cell? ⟨w.heap.size, 9, none⟩ = some (.int .i64 a0_9) := (blk_cell BM7.out 9).trans rfl
    have xc9 : w7.cell? ⟨gx, 9, none⟩ = some (.int .i64 0) := (blk_cell BX7.out 9).trans rfl
    have q10 : w7.cell? ⟨w.heap.size, 10, none⟩ = some (.int .i64 a0_10) := (blk_cell BM7.out 10).trans rfl
    have xc10 : w7.cell? ⟨gx, 10, none⟩ = some (.int .i64 0) := (blk_cell BX7.out 10).trans rfl
    have q11 : w7.cell? ⟨w.heap.size, 11, none⟩ = some (.slice A0_11 l0_11.length c0_11) := (blk_cell BM7.out 11).trans rfl
    have xc11 : w7.cell? ⟨gx, 11, none⟩ = some (.slice none 0 0) := (blk_cell BX7.out 11).trans rfl
    go_wp2_with fail
    go_at_call 12
    refine calls_of_args (args' := #[.agg #[.int .i64 1, .int .i64 a0_1, .int .i64 a0_2, .int .i64 0, .int .i64 0, .int .i64 0, .int .i64 0, .int .i64 a0_7, .int .i64 0, .int .i64 0, .int .i64 0, .slice none ([] : List Int).length 0], .agg #[.int .i64 1, .int .i64 a0_1, .int .i64 a0_2, .int .i64 a0_3, .int .i64 a0_4, .int .i64 a0_5, .int .i64 a0_6, .int .i64 a0_7, .int .i64 a0_8, .int .i64 a0_9, .int .i64 a0_10, .slice A0_11 l0_11.length c0_11]]) rfl ?_
    with_reducible refine (waybillplain_SameMsg.calls 1 a0_1 a0_2 0 0 0 0 a0_7 0 0 0 none 0 ([] : List Int) 1 a0_1 a0_2 a0_3 a0_4 a0_5 a0_6 a0_7 a0_8 a0_9 a0_10 A0_11 c0_11 l0_11 s _ (Kd.C_nil _ _) (Nat.le_refl _) (Kd.C_below HR.out HB7.out) HC.out HS3.out).mono ?_
    rintro e w8 ⟨rfl, hb⟩
    have BX8 := Aside0.mk (blk_below BX7.out hb)
    have BM8 := Aside0.mk (blk_below BM7.out hb)
    have HB8 := Aside0.mk (below_then HB7.out HB7.out.size hb)
    clear hb BX7 BM7 HB7 q0 xc0 q1 xc1 q2 xc2 q3 xc3 q4 xc4 q5 xc5 q6 xc6 q7 xc7 q8 xc8 q9 xc9 q10 xc10 q11 xc11
    cases s with
    | true =>
      go_wp2_with fail
      go_ret
      exact ⟨rfl, HB8.out⟩
    | false =>
      by_cases e9 : eb = 9
      case neg =>
        have := (if_neg e9).symm.trans ((if_neg (by decide)).symm.trans HH3.out)
        cases this
      have y9 : (eb == 9) = true := beq_iff_eq.mpr e9
      have HH4 := Aside0.mk ((if_pos e9).symm.trans ((if_neg (by decide)).symm.trans HH3.out))
      clear HH3 e9
      go_wp2_with fail
      go_at_call 11
      with_reducible refine (waybilllaw09_num.calls eb eb _ rfl).mono ?_
      rintro e w9 ⟨rfl, hd⟩
      have BX9 := Aside0.mk (blk_below BX8.out hd.below)
      have BM9 := Aside0.mk (blk_below BM8.out hd.below)
      have HB9 := Aside0.mk (below_then HB8.out HB8.out.size hd.below)
      clear hd BX8 BM8 HB8
      have q0 : w9.cell? ⟨w.heap.size, 0, none⟩ = some (.int .i64 1) := (blk_cell BM9.out 0).trans rfl
      have xc0 : w9.cell? ⟨gx, 0, none⟩ = some (.int .i64 1) := (blk_cell BX9.out 0).trans rfl
      have q1 : w9.cell? ⟨w.heap.size, 1, none⟩ = some (.int .i64 a0_1) := (blk_cell BM9.out 1).trans rfl
      have xc1 : w9.cell? ⟨gx, 1, none⟩ = some (.int .i64 a0_1) := (blk_cell BX9.out 1).trans rfl
      have q2 : w9.cell? ⟨w.heap.size, 2, none⟩ = some (.int .i64 a0_2) := (blk_cell BM9.out 2).trans rfl
      have xc2 : w9.cell? ⟨gx, 2, none⟩ = some (.int .i64 a0_2) := (blk_cell BX9.out 2).trans rfl
      have q3 : w9.cell? ⟨w.heap.size, 3, none⟩ = some (.int .i64 a0_3) := (blk_cell BM9.out 3).trans rfl
      have xc3 : w9.cell? ⟨gx, 3, none⟩ = some (.int .i64 0) := (blk_cell BX9.out 3).trans rfl
      have q4 : w9.cell? ⟨w.heap.size, 4, none⟩ = some (.int .i64 a0_4) := (blk_cell BM9.out 4).trans rfl
      have xc4 : w9.cell? ⟨gx, 4, none⟩ = some (.int .i64 0) := (blk_cell BX9.out 4).trans rfl
      have q5 : w9.cell? ⟨w.heap.size, 5, none⟩ = some (.int .i64 a0_5) := (blk_cell BM9.out 5).trans rfl
      have xc5 : w9.cell? ⟨gx, 5, none⟩ = some (.int .i64 0) := (blk_cell BX9.out 5).trans rfl
      have q6 : w9.cell? ⟨w.heap.size, 6, none⟩ = some (.int .i64 a0_6) := (blk_cell BM9.out 6).trans rfl
      have xc6 : w9.cell? ⟨gx, 6, none⟩ = some (.int .i64 0) := (blk_cell BX9.out 6).trans rfl
      have q7 : w9.cell? ⟨w.heap.size, 7, none⟩ = some (.int .i64 a0_7) := (blk_cell BM9.out 7).trans rfl
      have xc7 : w9.cell? ⟨gx, 7, none⟩ = some (.int .i64 a0_7) := (blk_cell BX9.out 7).trans rfl
      have q8 : w9.cell? ⟨w.heap.size, 8, none⟩ = some (.int .i64 a0_8) := (blk_cell BM9.out 8).trans rfl
      have xc8 : w9.cell? ⟨gx, 8, none⟩ = some (.int .i64 0) := (blk_cell BX9.out 8).trans rfl
      have q9 : w9.cell? ⟨w.heap.size, 9, none⟩ = some (.int .i64 a0_9) := (blk_cell BM9.out 9).trans rfl
      have xc9 : w9.cell? ⟨gx, 9, none⟩ = some (.int .i64 0) := (blk_cell BX9.out 9).trans rfl
      have q10 : w9.cell? ⟨w.heap.size, 10, none⟩ = some (.int .i64 a0_10) := (blk_cell BM9.out 10).trans rfl
      have xc10 : w9.cell? ⟨gx, 10, none⟩ = some (.int .i64 0) := (blk_cell BX9.out 10).trans rfl
      have q11 : w9.cell? ⟨w.heap.size, 11, none⟩ = some (.slice A0_11 l0_11.length c0_11) := (blk_cell BM9.out 11).trans rfl
      have xc11 : w9.cell? ⟨gx, 11, none⟩ = some (.slice none 0 0) := (blk_cell BX9.out 11).trans rfl
      obtain ⟨ec, hec, hz⟩ := Option.bind_eq_some_iff.1 ((if_neg (by decide)).symm.trans HH4.out)
      have hez : ec = 0 := of_decide_eq_true (Option.some.inj hz)
      subst hez
      have HEC := Aside0.mk hec
      clear hec hz HH4
      go_wp2_with fail
      go_at_call 15
      refine calls_of_args (args' := #[.agg #[.int .i64 1, .int .i64 a0_1, .int .i64 a0_2, .int .i64 0, .int .i64 0, .int .i64 0, .int .i64 0, .int .i64 a0_7, .int .i64 0, .int .i64 0, .int .i64 0, .slice none ([] : List Int).length 0]]) rfl ?_
      with_reducible refine (message_Check.calls k 1 a0_1 a0_2 0 0 0 0 a0_7 0 0 0 none 0 ([] : List Int) 0 _ (Kd.C_nil _ _) (Nat.le_refl _) HEC.out).mono ?_
      rintro e w10 ⟨rfl, hb⟩
      have HB10 := Aside0.mk (below_then HB9.out HB9.out.size hb)
      clear hb BX9 BM9 HB9 q0 xc0 q1 xc1 q2 xc2 q3 xc3 q4 xc4 q5 xc5 q6 xc6 q7 xc7 q8 xc8 q9 xc9 q10 xc10 q11 xc11
      go_wp2_with fail
      go_at_call 11
      with_reducible refine (waybilllaw09_num.calls 0 0 _ rfl).mono ?_
      rintro e w11 ⟨rfl, hd⟩
      have HB11 := Aside0.mk (below_then HB10.out HB10.out.size hd.below)
      clear hd
      go_wp2_with fail
      go_ret
      exact ⟨rfl, HB11.out⟩
  by_cases k8 : a0_0 = 8
  · subst k8
    have hs := HS.out
    have hh2 := HH2.out
    simp only [(show lawF 8 1 a0_1 = a0_1 from by unfold lawF; simp), (show lawF 8 2 a0_2 = a0_2 from by unfold lawF; simp), (show lawF 8 3 a0_3 = 0 from by unfold lawF; simp), (show lawF 8 4 a0_4 = 0 from by unfold lawF; simp), (show lawF 8 5 a0_5 = 0 from by unfold lawF; simp), (show lawF 8 6 a0_6 = 0 from by unfold lawF; simp), (show lawF 8 7 a0_7 = a0_7 from by unfold lawF; simp), (show lawF 8 8 a0_8 = 0 from by unfold lawF; simp), (show lawF 8 9 a0_9 = 0 from by unfold lawF; simp), (show lawF 8 10 a0_10 = 0 from by unfold lawF; simp), (show lawD 8 l0_11 = ([] : List Int) from by unfold lawD; simp)] at hs hh2
    have HS3 := Aside0.mk hs
    have HH3 := Aside0.mk hh2
    clear hs hh2 HS HH2 k1
    go_upto_region 13 with fail
    obtain ⟨w7, hw7⟩ : ∃ W, W = (((((((((((((w6.setCell ⟨gx, 0, none⟩ (.int .i64 8)).setCell ⟨gx, 1, none⟩ (.int .i64 a0_1)).setCell ⟨gx, 2, none⟩ (.int .i64 a0_2)).setCell ⟨gx, 3, none⟩ (.int .i64 0)).setCell ⟨gx, 4, none⟩ (.int .i64 0)).setCell ⟨gx, 5, none⟩ (.int .i64 0)).setCell ⟨gx, 6, none⟩ (.int .i64 0)).setCell ⟨gx, 7, none⟩ (.int .i64 a0_7)).setCell ⟨gx, 8, none⟩ (.int .i64 0)).setCell ⟨gx, 9, none⟩ (.int .i64 0)).setCell ⟨gx, 10, none⟩ (.int .i64 0)).setCell ⟨gx, 11, none⟩ (.slice none 0 0)).setCell ⟨gx, 11, none⟩ (.slice none 0 0)) := ⟨_, rfl⟩
    rw [← hw7]
    have BX7 := Aside0.mk (show w7.heap[gx]? = some (.cells #[.int .i64 8, .int .i64 a0_1, .int .i64 a0_2, .int .i64 0, .int .i64 0, .int .i64 0, .int .i64 0, .int .i64 a0_7, .int .i64 0, .int .i64 0, .int .i64 0, .slice none 0 0] 25 (0, 0)) by rw [hw7]; exact blk_put (msg_fill2 BX6.out 8 a0_1 a0_2 0 0 0 0 a0_7 0 0 0 (.slice none 0 0)) 11 _ rfl)
    have BM7 := Aside0.mk (show w7.heap[w.heap.size]? = some (.cells #[.int .i64 8, .int .i64 a0_1, .int .i64 a0_2, .int .i64 a0_3, .int .i64 a0_4, .int .i64 a0_5, .int .i64 a0_6, .int .i64 a0_7, .int .i64 a0_8, .int .i64 a0_9, .int .i64 a0_10, .slice A0_11 l0_11.length c0_11] 25 (0, 0)) by rw [hw7]; exact blk_far ((fill_keep (W := w6) (g := gx) 8 a0_1 a0_2 0 0 0 0 a0_7 0 0 0 (.slice none 0 0) w.heap.size (show w.heap.size ≠ gx by omega)).trans BM6.out) (by show w.heap.size ≠ gx; omega) _)
    have HB7 := Aside0.mk (show Below w.heap.size w w7 by rw [hw7]; exact below_set (fillB HB6.out (show w.heap.size ≤ gx by omega) 8 a0_1 a0_2 0 0 0 0 a0_7 0 0 0 (.slice none 0 0)) (show w.heap.size ≤ gx by omega))
    clear hw7 BX6 BM6 HB6 q0 xc0 q1 xc1 q2 xc2 q3 xc3 q4 xc4 q5 xc5 q6 xc6 q7 xc7 q8 xc8 q9 xc9 q10 xc10 q11 xc11 xf0 xf1 xf2 xf3 xf4 xf5 xf6 xf7 xf8 xf9 xf10 xf11
    have q0 : w7.cell? ⟨w.heap.size, 0, none⟩ = some (.int .i64 8) := (blk_cell BM7.out 0).trans rfl
    have xc0 : w7.cell? ⟨gx, 0, none⟩ = some (.int .i64 8) := (blk_cell BX7.out 0).trans rfl
    have q1 : w7.cell? ⟨w.heap.size, 1, none⟩ = some (.int .i64 a0_1) := (blk_cell BM7.out 1).trans rfl
    have xc1 : w7.cell? ⟨gx, 1, none⟩ = some (.int .i64 a0_1) := (blk_cell BX7.out 1).trans rfl
    have q2 : w7.cell? ⟨w.heap.size, 2, none⟩ = some (.int .i64 a0_2) := (blk_cell BM7.out 2).trans rfl
    have xc2 : w7.cell? ⟨gx, 2, none⟩ = some (.int .i64 a0_2) := (blk_cell BX7.out 2).trans rfl
    have q3 : w7.cell? ⟨w.heap.size, 3, none⟩ = some (.int .i64 a0_3) := (blk_cell BM7.out 3).trans rfl
    have xc3 : w7.cell? ⟨gx, 3, none⟩ = some (.int .i64 0) := (blk_cell BX7.out 3).trans rfl
    have q4 : w7.cell? ⟨w.heap.size, 4, none⟩ = some (.int .i64 a0_4) := (blk_cell BM7.out 4).trans rfl
    have xc4 : w7.cell? ⟨gx, 4, none⟩ = some (.int .i64 0) := (blk_cell BX7.out 4).trans rfl
    have q5 : w7.cell? ⟨w.heap.size, 5, none⟩ = some (.int .i64 a0_5) := (blk_cell BM7.out 5).trans rfl
    have xc5 : w7.cell? ⟨gx, 5, none⟩ = some (.int .i64 0) := (blk_cell BX7.out 5).trans rfl
    have q6 : w7.cell? ⟨w.heap.size, 6, none⟩ = some (.int .i64 a0_6) := (blk_cell BM7.out 6).trans rfl
    have xc6 : w7.cell? ⟨gx, 6, none⟩ = some (.int .i64 0) := (blk_cell BX7.out 6).trans rfl
    have q7 : w7.cell? ⟨w.heap.size, 7, none⟩ = some (.int .i64 a0_7) := (blk_cell BM7.out 7).trans rfl
    have xc7 : w7.cell? ⟨gx, 7, none⟩ = some (.int .i64 a0_7) := (blk_cell BX7.out 7).trans rfl
    have q8 : w7.cell? ⟨w.heap.size, 8, none⟩ = some (.int .i64 a0_8) := (blk_cell BM7.out 8).trans rfl
    have xc8 : w7.cell? ⟨gx, 8, none⟩ = some (.int .i64 0) := (blk_cell BX7.out 8).trans rfl
    have q9 : w7.cell? ⟨w.heap.size, 9, none⟩ = some (.int .i64 a0_9) := (blk_cell BM7.out 9).trans rfl
    have xc9 : w7.cell? ⟨gx, 9, none⟩ = some (.int .i64 0) := (blk_cell BX7.out 9).trans rfl
    have q10 : w7.cell? ⟨w.heap.size, 10, none⟩ = some (.int .i64 a0_10) := (blk_cell BM7.out 10).trans rfl
    have xc10 : w7.cell? ⟨gx, 10, none⟩ = some (.int .i64 0) := (blk_cell BX7.out 10).trans rfl
    have q11 : w7.cell? ⟨w.heap.size, 11, none⟩ = some (.slice A0_11 l0_11.length c0_11) := (blk_cell BM7.out 11).trans rfl
    have xc11 : w7.cell? ⟨gx, 11, none⟩ = some (.slice none 0 0) := (blk_cell BX7.out 11).trans rfl
    go_wp2_with fail
    go_at_call 12
    refine calls_of_args (args' := #[.agg #[.int .i64 8, .int .i64 a0_1, .int .i64 a0_2, .int .i64 0, .int .i64 0, .int .i64 0, .int .i64 0, .int .i64 a0_7, .int .i64 0, .int .i64 0, .int .i64 0, .slice none ([] : List Int).length 0], .agg #[.int .i64 8, .int .i64 a0_1, .int .i64 a0_2, .int .i64 a0_3, .int .i64 a0_4, .int .i64 a0_5, .int .i64 a0_6, .int .i64 a0_7, .int .i64 a0_8, .int .i64 a0_9, .int .i64 a0_10, .slice A0_11 l0_11.length c0_11]]) rfl ?_
    with_reducible refine (waybillplain_SameMsg.calls 8 a0_1 a0_2 0 0 0 0 a0_7 0 0 0 none 0 ([] : List Int) 8 a0_1 a0_2 a0_3 a0_4 a0_5 a0_6 a0_7 a0_8 a0_9 a0_10 A0_11 c0_11 l0_11 s _ (Kd.C_nil _ _) (Nat.le_refl _) (Kd.C_below HR.out HB7.out) HC.out HS3.out).mono ?_
    rintro e w8 ⟨rfl, hb⟩
    have BX8 := Aside0.mk (blk_below BX7.out hb)
    have BM8 := Aside0.mk (blk_below BM7.out hb)
    have HB8 := Aside0.mk (below_then HB7.out HB7.out.size hb)
    clear hb BX7 BM7 HB7 q0 xc0 q1 xc1 q2 xc2 q3 xc3 q4 xc4 q5 xc5 q6 xc6 q7 xc7 q8 xc8 q9 xc9 q10 xc10 q11 xc11
    cases s with
    | true =>
      go_wp2_with fail
      go_ret
      exact ⟨rfl, HB8.out⟩
    | false =>
      by_cases e9 : eb = 9
      case neg =>
        have := (if_neg e9).symm.trans ((if_neg (by decide)).symm.trans HH3.out)
        cases this
      have y9 : (eb == 9) = true := beq_iff_eq.mpr e9
      have HH4 := Aside0.mk ((if_pos e9).symm.trans ((if_neg (by decide)).symm.trans HH3.out))
      clear HH3 e9
      go_wp2_with fail
      go_at_call 11
      with_reducible refine (waybilllaw09_num.calls eb eb _ rfl).mono ?_
      rintro e w9 ⟨rfl, hd⟩
      have BX9 := Aside0.mk (blk_below BX8.out hd.below)
      have BM9 := Aside0.mk (blk_below BM8.out hd.below)
      have HB9 := Aside0.mk (below_then HB8.out HB8.out.size hd.below)
      clear hd BX8 BM8 HB8
      have q0 : w9.cell? ⟨w.heap.size, 0, none⟩ = some (.int .i64 8) := (blk_cell BM9.out 0).trans rfl
      have xc0 : w9.cell? ⟨gx, 0, none⟩ = some (.int .i64 8) := (blk_cell BX9.out 0).trans rfl
      have q1 : w9.cell? ⟨w.heap.size, 1, none⟩ = some (.int .i64 a0_1) := (blk_cell BM9.out 1).trans rfl
      have xc1 : w9.cell? ⟨gx, 1, none⟩ = some (.int .i64 a0_1) := (blk_cell BX9.out 1).trans rfl
      have q2 : w9.cell? ⟨w.heap.size, 2, none⟩ = some (.int .i64 a0_2) := (blk_cell BM9.out 2).trans rfl
      have xc2 : w9.cell? ⟨gx, 2, none⟩ = some (.int .i64 a0_2) := (blk_cell BX9.out 2).trans rfl
      have q3 : w9.cell? ⟨w.heap.size, 3, none⟩ = some (.int .i64 a0_3) := (blk_cell BM9.out 3).trans rfl
      have xc3 : w9.cell? ⟨gx, 3, none⟩ = some (.int .i64 0) := (blk_cell BX9.out 3).trans rfl
      have q4 : w9.cell? ⟨w.heap.size, 4, none⟩ = some (.int .i64 a0_4) := (blk_cell BM9.out 4).trans rfl
      have xc4 : w9.cell? ⟨gx, 4, none⟩ = some (.int .i64 0) := (blk_cell BX9.out 4).trans rfl
      have q5 : w9.cell? ⟨w.heap.size, 5, none⟩ = some (.int .i64 a0_5) := (blk_cell BM9.out 5).trans rfl
      have xc5 : w9.cell? ⟨gx, 5, none⟩ = some (.int .i64 0) := (blk_cell BX9.out 5).trans rfl
      have q6 : w9.cell? ⟨w.heap.size, 6, none⟩ = some (.int .i64 a0_6) := (blk_cell BM9.out 6).trans rfl
      have xc6 : w9.cell? ⟨gx, 6, none⟩ = some (.int .i64 0) := (blk_cell BX9.out 6).trans rfl
      have q7 : w9.cell? ⟨w.heap.size, 7, none⟩ = some (.int .i64 a0_7) := (blk_cell BM9.out 7).trans rfl
      have xc7 : w9.cell? ⟨gx, 7, none⟩ = some (.int .i64 a0_7) := (blk_cell BX9.out 7).trans rfl
      have q8 : w9.cell? ⟨w.heap.size, 8, none⟩ = some (.int .i64 a0_8) := (blk_cell BM9.out 8).trans rfl
      have xc8 : w9.cell? ⟨gx, 8, none⟩ = some (.int .i64 0) := (blk_cell BX9.out 8).trans rfl
      have q9 : w9.cell? ⟨w.heap.size, 9, none⟩ = some (.int .i64 a0_9) := (blk_cell BM9.out 9).trans rfl
      have xc9 : w9.cell? ⟨gx, 9, none⟩ = some (.int .i64 0) := (blk_cell BX9.out 9).trans rfl
      have q10 : w9.cell? ⟨w.heap.size, 10, none⟩ = some (.int .i64 a0_10) := (blk_cell BM9.out 10).trans rfl
      have xc10 : w9.cell? ⟨gx, 10, none⟩ = some (.int .i64 0) := (blk_cell BX9.out 10).trans rfl
      have q11 : w9.cell? ⟨w.heap.size, 11, none⟩ = some (.slice A0_11 l0_11.length c0_11) := (blk_cell BM9.out 11).trans rfl
      have xc11 : w9.cell? ⟨gx, 11, none⟩ = some (.slice none 0 0) := (blk_cell BX9.out 11).trans rfl
      obtain ⟨ec, hec, hz⟩ := Option.bind_eq_some_iff.1 ((if_neg (by decide)).symm.trans HH4.out)
      have hez : ec = 0 := of_decide_eq_true (Option.some.inj hz)
      subst hez
      have HEC := Aside0.mk hec
      clear hec hz HH4
      go_wp2_with fail
      go_at_call 15
      refine calls_of_args (args' := #[.agg #[.int .i64 8, .int .i64 a0_1, .int .i64 a0_2, .int .i64 0, .int .i64 0, .int .i64 0, .int .i64 0, .int .i64 a0_7, .int .i64 0, .int .i64 0, .int .i64 0, .slice none ([] : List Int).length 0]]) rfl ?_
      with_reducible refine (message_Check.calls k 8 a0_1 a0_2 0 0 0 0 a0_7 0 0 0 none 0 ([] : List Int) 0 _ (Kd.C_nil _ _) (Nat.le_refl _) HEC.out).mono ?_
      rintro e w10 ⟨rfl, hb⟩
      have HB10 := Aside0.mk (below_then HB9.out HB9.out.size hb)
      clear hb BX9 BM9 HB9 q0 xc0 q1 xc1 q2 xc2 q3 xc3 q4 xc4 q5 xc5 q6 xc6 q7 xc7 q8 xc8 q9 xc9 q10 xc10 q11 xc11
      go_wp2_with fail
      go_at_call 11
      with_reducible refine (waybilllaw09_num.calls 0 0 _ rfl).mono ?_
      rintro e w11 ⟨rfl, hd⟩
      have HB11 := Aside0.mk (below_then HB10.out HB10.out.size hd.below)
      clear hd
      go_wp2_with fail
      go_ret
      exact ⟨rfl, HB11.out⟩
  by_cases k6 : a0_0 = 6
  · subst k6
    have hs := HS.out
    have hh2 := HH2.out
    simp only [(show lawF 6 1 a0_1 = a0_1 from by unfold lawF; simp), (show lawF 6 2 a0_2 = a0_2 from by unfold lawF; simp), (show lawF 6 3 a0_3 = a0_3 from by unfold lawF; simp), (show lawF 6 4 a0_4 = a0_4 from by unfold lawF; simp), (show lawF 6 5 a0_5 = a0_5 from by unfold lawF; simp), (show lawF 6 6 a0_6 = 0 from by unfold lawF; simp), (show lawF 6 7 a0_7 = 0 from by unfold lawF; simp), (show lawF 6 8 a0_8 = 0 from by unfold lawF; simp), (show lawF 6 9 a0_9 = 0 from by unfold lawF; simp), (show lawF 6 10 a0_10 = 0 from by unfold lawF; simp), (show lawD 6 l0_11 = ([] : List Int) from by unfold lawD; simp)] at hs hh2
    have HS3 := Aside0.mk hs
    have HH3 := Aside0.mk hh2
    clear hs hh2 HS HH2 k1 k8
    go_upto_region 13 with fail
    obtain ⟨w7, hw7⟩ : ∃ W, W = (((((((((((((w6.setCell ⟨gx, 0, none⟩ (.int .i64 6)).setCell ⟨gx, 1, none⟩ (.int .i64 a0_1)).setCell ⟨gx, 2, none⟩ (.int .i64 a0_2)).setCell ⟨gx, 3, none⟩ (.int .i64 a0_3)).setCell ⟨gx, 4, none⟩ (.int .i64 a0_4)).setCell ⟨gx, 5, none⟩ (.int .i64 a0_5)).setCell ⟨gx, 6, none⟩ (.int .i64 0)).setCell ⟨gx, 7, none⟩ (.int .i64 0)).setCell ⟨gx, 8, none⟩ (.int .i64 0)).setCell ⟨gx, 9, none⟩ (.int .i64 0)).setCell ⟨gx, 10, none⟩ (.int .i64 0)).setCell ⟨gx, 11, none⟩ (.slice none 0 0)).setCell ⟨gx, 11, none⟩ (.slice none 0 0)) := ⟨_, rfl⟩
    rw [← hw7]
    have BX7 := Aside0.mk (show w7.heap[gx]? = some (.cells #[.int .i64 6, .int .i64 a0_1, .int .i64 a0_2, .int .i64 a0_3, .int .i64 a0_4, .int .i64 a0_5, .int .i64 0, .int .i64 0, .int .i64 0, .int .i64 0, .int .i64 0, .slice none 0 0] 25 (0, 0)) by rw [hw7]; exact blk_put (msg_fill2 BX6.out 6 a0_1 a0_2 a0_3 a0_4 a0_5 0 0 0 0 0 (.slice none 0 0)) 11 _ rfl)
    have BM7 := Aside0.mk (show w7.heap[w.heap.size]? = some (.cells #[.int .i64 6, .int .i64 a0_1, .int .i64 a0_2, .int .i64 a0_3, .int .i64 a0_4, .int .i64 a0_5, .int .i64 a0_6, .int .i64 a0_7, .int .i64 a0_8, .int .i64 a0_9, .int .i64 a0_10, .slice A0_11 l0_11.length c0_11] 25 (0, 0)) by rw [hw7]; exact blk_far ((fill_keep (W := w6) (g := gx) 6 a0_1 a0_2 a0_3 a0_4 a0_5 0 0 0 0 0 (.slice none 0 0) w.heap.size (show w.heap.size ≠ gx by omega)).trans BM6.out) (by show w.heap.size ≠ gx; omega) _)
    have HB7 := Aside0.mk (show Below w.heap.size w w7 by rw [hw7]; exact below_set (fillB HB6.out (show w.heap.size ≤ gx by omega) 6 a0_1 a0_2 a0_3 a0_4 a0_5 0 0 0 0 0 (.slice none 0 0)) (show w.heap.size ≤ gx by omega))
    clear hw7 BX6 BM6 HB6 q0 xc0 q1 xc1 q2 xc2 q3 xc3 q4 xc4 q5 xc5 q6 xc6 q7 xc7 q8 xc8 q9 xc9 q10 xc10 q11 xc11 xf0 xf1 xf2 xf3 xf4 xf5 xf6 xf7 xf8 xf9 xf10 xf11
    have q0 : w7.cell? ⟨w.heap.size, 0, none⟩ = some (.int .i64 6) := (blk_cell BM7.out 0).trans rfl
    have xc0 : w7.cell? ⟨gx, 0, none⟩ = some (.int .i64 6) := (blk_cell BX7.out 0).trans rfl
    have q1 : w7.cell? ⟨w.heap.size, 1, none⟩ = some (.int .i64 a0_1) := (blk_cell BM7.out 1).trans rfl
    have xc1 : w7.cell? ⟨gx, 1, none⟩ = some (.int .i64 a0_1) := (blk_cell BX7.out 1).trans rfl
    have q2 : w7.cell? ⟨w.heap.size, 2, none⟩ = some (.int .i64 a0_2) := (blk_cell BM7.out 2).trans rfl
    have xc2 : w7.cell? ⟨gx, 2, none⟩ = some (.int .i64 a0_2) := (blk_cell BX7.out 2).trans rfl
    have q3 : w7.cell? ⟨w.heap.size, 3, none⟩ = some (.int .i64 a0_3) := (blk_cell BM7.out 3).trans rfl
    have xc3 : w7.cell? ⟨gx, 3, none⟩ = some (.int .i64 a0_3) := (blk_cell BX7.out 3).trans rfl
    have q4 : w7.cell? ⟨w.heap.size, 4, none⟩ = some (.int .i64 a0_4) := (blk_cell BM7.out 4).trans rfl
    have xc4 : w7.cell? ⟨gx, 4, none⟩ = some (.int .i64 a0_4) := (blk_cell BX7.out 4).trans rfl
    have q5 : w7.cell? ⟨w.heap.size, 5, none⟩ = some (.int .i64 a0_5) := (blk_cell BM7.out 5).trans rfl
    have xc5 : w7.cell? ⟨gx, 5, none⟩ = some (.int .i64 a0_5) := (blk_cell BX7.out 5).trans rfl
    have q6 : w7.cell? ⟨w.heap.size, 6, none⟩ = some (.int .i64 a0_6) := (blk_cell BM7.out 6).trans rfl
    have xc6 : w7.cell? ⟨gx, 6, none⟩ = some (.int .i64 0) := (blk_cell BX7.out 6).trans rfl
    have q7 : w7.cell? ⟨w.heap.size, 7, none⟩ = some (.int .i64 a0_7) := (blk_cell BM7.out 7).trans rfl
    have xc7 : w7.cell? ⟨gx, 7, none⟩ = some (.int .i64 0) := (blk_cell BX7.out 7).trans rfl
    have q8 : w7.cell? ⟨w.heap.size, 8, none⟩ = some (.int .i64 a0_8) := (blk_cell BM7.out 8).trans rfl
    have xc8 : w7.cell? ⟨gx, 8, none⟩ = some (.int .i64 0) := (blk_cell BX7.out 8).trans rfl
    have q9 : w7.cell? ⟨w.heap.size, 9, none⟩ = some (.int .i64 a0_9) := (blk_cell BM7.out 9).trans rfl
    have xc9 : w7.cell? ⟨gx, 9, none⟩ = some (.int .i64 0) := (blk_cell BX7.out 9).trans rfl
    have q10 : w7.cell? ⟨w.heap.size, 10, none⟩ = some (.int .i64 a0_10) := (blk_cell BM7.out 10).trans rfl
    have xc10 : w7.cell? ⟨gx, 10, none⟩ = some (.int .i64 0) := (blk_cell BX7.out 10).trans rfl
    have q11 : w7.cell? ⟨w.heap.size, 11, none⟩ = some (.slice A0_11 l0_11.length c0_11) := (blk_cell BM7.out 11).trans rfl
    have xc11 : w7.cell? ⟨gx, 11, none⟩ = some (.slice none 0 0) := (blk_cell BX7.out 11).trans rfl
    go_wp2_with fail
    go_at_call 12
    refine calls_of_args (args' := #[.agg #[.int .i64 6, .int .i64 a0_1, .int .i64 a0_2, .int .i64 a0_3, .int .i64 a0_4, .int .i64 a0_5, .int .i64 0, .int .i64 0, .int .i64 0, .int .i64 0, .int .i64 0, .slice none ([] : List Int).length 0], .agg #[.int .i64 6, .int .i64 a0_1, .int .i64 a0_2, .int .i64 a0_3, .int .i64 a0_4, .int .i64 a0_5, .int .i64 a0_6, .int .i64 a0_7, .int .i64 a0_8, .int .i64 a0_9, .int .i64 a0_10, .slice A0_11 l0_11.length c0_11]]) rfl ?_
    with_reducible refine (waybillplain_SameMsg.calls 6 a0_1 a0_2 a0_3 a0_4 a0_5 0 0 0 0 0 none 0 ([] : List Int) 6 a0_1 a0_2 a0_3 a0_4 a0_5 a0_6 a0_7 a0_8 a0_9 a0_10 A0_11 c0_11 l0_11 s _ (Kd.C_nil _ _) (Nat.le_refl _) (Kd.C_below HR.out HB7.out) HC.out HS3.out).mono ?_
    rintro e w8 ⟨rfl, hb⟩
    have BX8 := Aside0.mk (blk_below BX7.out hb)
    have BM8 := Aside0.mk (blk_below BM7.out hb)
    have HB8 := Aside0.mk (below_then HB7.out HB7.out.size hb)
    clear hb BX7 BM7 HB7 q0 xc0 q1 xc1 q2 xc2 q3 xc3 q4 xc4 q5 xc5 q6 xc6 q7 xc7 q8 xc8 q9 xc9 q10 xc10 q11 xc11
    cases s with
    | true =>
      go_wp2_with fail
      go_ret
      exact ⟨rfl, HB8.out⟩
    | false =>
      by_cases e9 : eb = 9
      case neg =>
        have := (if_neg e9).symm.trans ((if_neg (by decide)).symm.trans HH3.out)
        cases this
      have y9 : (eb == 9) = true := beq_iff_eq.mpr e9
      have HH4 := Aside0.mk ((if_pos e9).symm.trans ((if_neg (by decide)).symm.trans HH3.out))
      clear HH3 e9
      go_wp2_with fail
      go_at_call 11
      with_reducible refine (waybilllaw09_num.calls eb eb _ rfl).mono ?_
      rintro e w9 ⟨rfl, hd⟩
      have BX9 := Aside0.mk (blk_below BX8.out hd.below)
      have BM9 := Aside0.mk (blk_below BM8.out hd.below)
      have HB9 := Aside0.mk (below_then HB8.out HB8.out.size hd.below)
      clear hd BX8 BM8 HB8
      have q0 : w9.cell? ⟨w.heap.size, 0, none⟩ = some (.int .i64 6) := (blk_cell BM9.out 0).trans rfl
      have xc0 : w9.cell? ⟨gx, 0, none⟩ = some (.int .i64 6) := (blk_cell BX9.out 0).trans rfl
      have q1 : w9.cell? ⟨w.heap.size, 1, none⟩ = some (.int .i64 a0_1) := (blk_cell BM9.out 1).trans rfl
      have xc1 : w9.cell? ⟨gx, 1, none⟩ = some (.int .i64 a0_1) := (blk_cell BX9.out 1).trans rfl
      have q2 : w9.cell? ⟨w.heap.size, 2, none⟩ = some (.int .i64 a0_2) := (blk_cell BM9.out 2).trans rfl
      have xc2 : w9.cell? ⟨gx, 2, none⟩ = some (.int .i64 a0_2) := (blk_cell BX9.out 2).trans rfl
      have q3 : w9.cell? ⟨w.heap.size, 3, none⟩ = some (.int .i64 a0_3) := (blk_cell BM9.out 3).trans rfl
      have xc3 : w9.cell? ⟨gx, 3, none⟩ = some (.int .i64 a0_3) := (blk_cell BX9.out 3).trans rfl
      have q4 : w9.cell? ⟨w.heap.size, 4, none⟩ = some (.int .i64 a0_4) := (blk_cell BM9.out 4).trans rfl
      have xc4 : w9.cell? ⟨gx, 4, none⟩ = some (.int .i64 a0_4) := (blk_cell BX9.out 4).trans rfl
      have q5 : w9.cell? ⟨w.heap.size, 5, none⟩ = some (.int .i64 a0_5) := (blk_cell BM9.out 5).trans rfl
      have xc5 : w9.cell? ⟨gx, 5, none⟩ = some (.int .i64 a0_5) := (blk_cell BX9.out 5).trans rfl
      have q6 : w9.cell? ⟨w.heap.size, 6, none⟩ = some (.int .i64 a0_6) := (blk_cell BM9.out 6).trans rfl
      have xc6 : w9.cell? ⟨gx, 6, none⟩ = some (.int .i64 0) := (blk_cell BX9.out 6).trans rfl
      have q7 : w9.cell? ⟨w.heap.size, 7, none⟩ = some (.int .i64 a0_7) := (blk_cell BM9.out 7).trans rfl
      have xc7 : w9.cell? ⟨gx, 7, none⟩ = some (.int .i64 0) := (blk_cell BX9.out 7).trans rfl
      have q8 : w9.cell? ⟨w.heap.size, 8, none⟩ = some (.int .i64 a0_8) := (blk_cell BM9.out 8).trans rfl
      have xc8 : w9.cell? ⟨gx, 8, none⟩ = some (.int .i64 0) := (blk_cell BX9.out 8).trans rfl
      have q9 : w9.cell? ⟨w.heap.size, 9, none⟩ = some (.int .i64 a0_9) := (blk_cell BM9.out 9).trans rfl
      have xc9 : w9.cell? ⟨gx, 9, none⟩ = some (.int .i64 0) := (blk_cell BX9.out 9).trans rfl
      have q10 : w9.cell? ⟨w.heap.size, 10, none⟩ = some (.int .i64 a0_10) := (blk_cell BM9.out 10).trans rfl
      have xc10 : w9.cell? ⟨gx, 10, none⟩ = some (.int .i64 0) := (blk_cell BX9.out 10).trans rfl
      have q11 : w9.cell? ⟨w.heap.size, 11, none⟩ = some (.slice A0_11 l0_11.length c0_11) := (blk_cell BM9.out 11).trans rfl
      have xc11 : w9.cell? ⟨gx, 11, none⟩ = some (.slice none 0 0) := (blk_cell BX9.out 11).trans rfl
      obtain ⟨ec, hec, hz⟩ := Option.bind_eq_some_iff.1 ((if_neg (by decide)).symm.trans HH4.out)
      have hez : ec = 0 := of_decide_eq_true (Option.some.inj hz)
      subst hez
      have HEC := Aside0.mk hec
      clear hec hz HH4
      go_wp2_with fail
      go_at_call 15
      refine calls_of_args (args' := #[.agg #[.int .i64 6, .int .i64 a0_1, .int .i64 a0_2, .int .i64 a0_3, .int .i64 a0_4, .int .i64 a0_5, .int .i64 0, .int .i64 0, .int .i64 0, .int .i64 0, .int .i64 0, .slice none ([] : List Int).length 0]]) rfl ?_
      with_reducible refine (message_Check.calls k 6 a0_1 a0_2 a0_3 a0_4 a0_5 0 0 0 0 0 none 0 ([] : List Int) 0 _ (Kd.C_nil _ _) (Nat.le_refl _) HEC.out).mono ?_
      rintro e w10 ⟨rfl, hb⟩
      have HB10 := Aside0.mk (below_then HB9.out HB9.out.size hb)
      clear hb BX9 BM9 HB9 q0 xc0 q1 xc1 q2 xc2 q3 xc3 q4 xc4 q5 xc5 q6 xc6 q7 xc7 q8 xc8 q9 xc9 q10 xc10 q11 xc11
      go_wp2_with fail
      go_at_call 11
      with_reducible refine (waybilllaw09_num.calls 0 0 _ rfl).mono ?_
      rintro e w11 ⟨rfl, hd⟩
      have HB11 := Aside0.mk (below_then HB10.out HB10.out.size hd.below)
      clear hd
      go_wp2_with fail
      go_ret
      exact ⟨rfl, HB11.out⟩
  by_cases k7 : a0_0 = 7
  · subst k7
    have hs := HS.out
    have hh2 := HH2.out
    simp only [(show lawF 7 1 a0_1 = a0_1 from by unfold lawF; simp), (show lawF 7 2 a0_2 = a0_2 from by unfold lawF; simp), (show lawF 7 3 a0_3 = a0_3 from by unfold lawF; simp), (show lawF 7 4 a0_4 = a0_4 from by unfold lawF; simp), (show lawF 7 5 a0_5 = a0_5 from by unfold lawF; simp), (show lawF 7 6 a0_6 = 0 from by unfold lawF; simp), (show lawF 7 7 a0_7 = 0 from by unfold lawF; simp), (show lawF 7 8 a0_8 = 0 from by unfold lawF; simp), (show lawF 7 9 a0_9 = 0 from by unfold lawF; simp), (show lawF 7 10 a0_10 = 0 from by unfold lawF; simp), (show lawD 7 l0_11 = ([] : List Int) from by unfold lawD; simp)] at hs hh2
    have HS3 := Aside0.mk hs
    have HH3 := Aside0.mk hh2
    clear hs hh2 HS HH2 k1 k8 k6
    go_upto_region 13 with fail
    obtain ⟨w7, hw7⟩ : ∃ W, W = (((((((((((((w6.setCell ⟨gx, 0, none⟩ (.int .i64 7)).setCell ⟨gx, 1, none⟩ (.int .i64 a0_1)).setCell ⟨gx, 2, none⟩ (.int .i64 a0_2)).setCell ⟨gx, 3, none⟩ (.int .i64 a0_3)).setCell ⟨gx, 4, none⟩ (.int .i64 a0_4)).setCell ⟨gx, 5, none⟩ (.int .i64 a0_5)).setCell ⟨gx, 6, none⟩ (.int .i64 0)).setCell ⟨gx, 7, none⟩ (.int .i64 0)).setCell ⟨gx, 8, none⟩ (.int .i64 0)).setCell ⟨gx, 9, none⟩ (.int .i64 0)).setCell ⟨gx, 10, none⟩ (.int .i64 0)).setCell ⟨gx, 11, none⟩ (.slice none 0 0)).setCell ⟨gx, 11, none⟩ (.slice none 0 0)) := ⟨_, rfl⟩
    rw [← hw7]
    have BX7 := Aside0.mk (show w7.heap[gx]? = some (.cells #[.int .i64 7, .int .i64 a0_1, .int .i64 a0_2, .int .i64 a0_3, .int .i64 a0_4, .int .i64 a0_5, .int .i64 0, .int .i64 0, .int .i64 0, .int .i64 0, .int .i64 0, .slice none 0 0] 25 (0, 0)) by rw [hw7]; exact blk_put (msg_fill2 BX6.out 7 a0_1 a0_2 a0_3 a0_4 a0_5 0 0 0 0 0 (.slice none 0 0)) 11 _ rfl)
    have BM7 := Aside0.mk (show w7.heap[w.heap.size]? = some (.cells #[.int .i64 7, .int .i64 a0_1, .int .i64 a0_2, .int .i64 a0_3, .int .i64 a0_4, .int .i64 a0_5, .int .i64 a0_6, .int .i64 a0_7, .int .i64 a0_8, .int .i64 a0_9, .int .i64 a0_10, .slice A0_11 l0_11.length c0_11] 25 (0, 0)) by rw [hw7]; exact blk_far ((fill_keep (W := w6) (g := gx) 7 a0_1 a0_2 a0_3 a0_4 a0_5 0 0 0 0 0 (.slice none 0 0) w.heap.size (show w.heap.size ≠ gx by omega)).trans BM6.out) (by show w.heap.size ≠ gx; omega) _)
    have HB7 := Aside0.mk (show Below w.heap.size w w7 by rw [hw7]; exact below_set (fillB HB6.out (show w.heap.size ≤ gx by omega) 7 a0_1 a0_2 a0_3 a0_4 a0_5 0 0 0 0 0 (.slice none 0 0)) (show w.heap.size ≤ gx by omega))
    clear hw7 BX6 BM6 HB6 q0 xc0 q1 xc1 q2 xc2 q3 xc3 q4 xc4 q5 xc5 q6 xc6 q7 xc7 q8 xc8 q9 xc9 q10 xc10 q11 xc11 xf0 xf1 xf2 xf3 xf4 xf5 xf6 xf7 xf8 xf9 xf10 xf11
    have q0 : w7.cell? ⟨w.heap.size, 0, none⟩ = some (.int .i64 7) := (blk_cell BM7.out 0).trans rfl
    have xc0 : w7.cell? ⟨gx, 0, none⟩ = some (.int .i64 7) := (blk_cell BX7.out 0).trans rfl
    have q1 : w7.cell? ⟨w.heap.size, 1, none⟩ = some (.int .i64 a0_1) := (blk_cell BM7.out 1).trans rfl
    have xc1 : w7.cell? ⟨gx, 1, none⟩ = some (.int .i64 a0_1) := (blk_cell BX7.out 1).trans rfl
    have q2 : w7.cell? ⟨w.heap.size, 2, none⟩ = some (.int .i64 a0_2) := (blk_cell BM7.out 2).trans rfl
    have xc2 : w7.cell? ⟨gx, 2, none⟩ = some (.int .i64 a0_2) := (blk_cell BX7.out 2).trans rfl
    have q3 : w7.cell? ⟨w.heap.size, 3, none⟩ = some (.int .i64 a0_3) := (blk_cell BM7.out 3).trans rfl
    have xc3 : w7.cell? ⟨gx, 3, none⟩ = some (.int .i64 a0_3) := (blk_cell BX7.out 3).trans rfl
    have q4 : w7.cell? ⟨w.heap.size, 4, none⟩ = some (.int .i64 a0_4) := (blk_cell BM7.out 4).trans rfl
    have xc4 : w7.cell? ⟨gx, 4, none⟩ = some (.int .i64 a0_4) := (blk_cell BX7.out 4).trans rfl
    have q5 : w7.cell? ⟨w.heap.size, 5, none⟩ = some (.int .i64 a0_5) := (blk_cell BM7.out 5).trans rfl
    have xc5 : w7.cell? ⟨gx, 5, none⟩ = some (.int .i64 a0_5) := (blk_cell BX7.out 5).trans rfl
    have q6 : w7.cell? ⟨w.heap.size, 6, none⟩ = some (.int .i64 a0_6) := (blk_cell BM7.out 6).trans rfl
    have xc6 : w7.cell? ⟨gx, 6, none⟩ = some (.int .i64 0) := (blk_cell BX7.out 6).trans rfl
    have q7 : w7.cell? ⟨w.heap.size, 7, none⟩ = some (.int .i64 a0_7) := (blk_cell BM7.out 7).trans rfl
    have xc7 : w7.cell? ⟨gx, 7, none⟩ = some (.int .i64 0) := (blk_cell BX7.out 7).trans rfl
    have q8 : w7.cell? ⟨w.heap.size, 8, none⟩ = some (.int .i64 a0_8) := (blk_cell BM7.out 8).trans rfl
    have xc8 : w7.cell? ⟨gx, 8, none⟩ = some (.int .i64 0) := (blk_cell BX7.out 8).trans rfl
    have q9 : w7.cell? ⟨w.heap.size, 9, none⟩ = some (.int .i64 a0_9) := (blk_cell BM7.out 9).trans rfl
    have xc9 : w7.cell? ⟨gx, 9, none⟩ = some (.int .i64 0) := (blk_cell BX7.out 9).trans rfl
    have q10 : w7.cell? ⟨w.heap.size, 10, none⟩ = some (.int .i64 a0_10) := (blk_cell BM7.out 10).trans rfl
    have xc10 : w7.cell? ⟨gx, 10, none⟩ = some (.int .i64 0) := (blk_cell BX7.out 10).trans rfl
    have q11 : w7.cell? ⟨w.heap.size, 11, none⟩ = some (.slice A0_11 l0_11.length c0_11) := (blk_cell BM7.out 11).trans rfl
    have xc11 : w7.cell? ⟨gx, 11, none⟩ = some (.slice none 0 0) := (blk_cell BX7.out 11).trans rfl
    go_wp2_with fail
    go_at_call 12
    refine calls_of_args (args' := #[.agg #[.int .i64 7, .int .i64 a0_1, .int .i64 a0_2, .int .i64 a0_3, .int .i64 a0_4, .int .i64 a0_5, .int .i64 0, .int .i64 0, .int .i64 0, .int .i64 0, .int .i64 0, .slice none ([] : List Int).length 0], .agg #[.int .i64 7, .int .i64 a0_1, .int .i64 a0_2, .int .i64 a0_3, .int .i64 a0_4, .int .i64 a0_5, .int .i64 a0_6, .int .i64 a0_7, .int .i64 a0_8, .int .i64 a0_9, .int .i64 a0_10, .slice A0_11 l0_11.length c0_11]]) rfl ?_
    with_reducible refine (waybillplain_SameMsg.calls 7 a0_1 a0_2 a0_3 a0_4 a0_5 0 0 0 0 0 none 0 ([] : List Int) 7 a0_1 a0_2 a0_3 a0_4 a0_5 a0_6 a0_7 a0_8 a0_9 a0_10 A0_11 c0_11 l0_11 s _ (Kd.C_nil _ _) (Nat.le_refl _) (Kd.C_below HR.out HB7.out) HC.out HS3.out).mono ?_
    rintro e w8 ⟨rfl, hb⟩
    have BX8 := Aside0.mk (blk_below BX7.out hb)
    have BM8 := Aside0.mk (blk_below BM7.out hb)
    have HB8 := Aside0.mk (below_then HB7.out HB7.out.size hb)
    clear hb BX7 BM7 HB7 q0 xc0 q1 xc1 q2 xc2 q3 xc3 q4 xc4 q5 xc5 q6 xc6 q7 xc7 q8 xc8 q9 xc9 q10 xc10 q11 xc11
    cases s with
    | true =>
      go_wp2_with fail
      go_ret
      exact ⟨rfl, HB8.out⟩
    | false =>
      by_cases e9 : eb = 9
      case neg =>
        have := (if_neg e9).symm.trans ((if_neg (by decide)).symm.trans HH3.out)
        cases this
      have y9 : (eb == 9) = true := beq_iff_eq.mpr e9
      have HH4 := Aside0.mk ((if_pos e9).symm.trans ((if_neg (by decide)).symm.trans HH3.out))
      clear HH3 e9
      go_wp2_with fail
      go_at_call 11
      with_reducible refine (waybilllaw09_num.calls eb eb _ rfl).mono ?_
      rintro e w9 ⟨rfl, hd⟩
      have BX9 := Aside0.mk (blk_below BX8.out hd.below)
      have BM9 := Aside0.mk (blk_below BM8.out hd.below)
      have HB9 := Aside0.mk (below_then HB8.out HB8.out.size hd.below)
      clear hd BX8 BM8 HB8
      have q0 : w9.cell? ⟨w.heap.size, 0, none⟩ = some (.int .i64 7) := (blk_cell BM9.out 0).trans rfl
      have xc0 : w9.cell? ⟨gx, 0, none⟩ = some (.int .i64 7) := (blk_cell BX9.out 0).trans rfl
      have q1 : w9.cell? ⟨w.heap.size, 1, none⟩ = some (.int .i64 a0_1) := (blk_cell BM9.out 1).trans rfl
      have xc1 : w9.cell? ⟨gx, 1, none⟩ = some (.int .i64 a0_1) := (blk_cell BX9.out 1).trans rfl
      have q2 : w9.cell? ⟨w.heap.size, 2, none⟩ = some (.int .i64 a0_2) := (blk_cell BM9.out 2).trans rfl
      have xc2 : w9.cell? ⟨gx, 2, none⟩ = some (.int .i64 a0_2) := (blk_cell BX9.out 2).trans rfl
      have q3 : w9.cell? ⟨w.heap.size, 3, none⟩ = some (.int .i64 a0_3) := (blk_cell BM9.out 3).trans rfl
      have xc3 : w9.cell? ⟨gx, 3, none⟩ = some (.int .i64 a0_3) := (blk_cell BX9.out 3).trans rfl
      have q4 : w9.cell? ⟨w.heap.size, 4, none⟩ = some (.int .i64 a0_4) := (blk_cell BM9.out 4).trans rfl
      have xc4 : w9.cell? ⟨gx, 4, none⟩ = some (.int .i64 a0_4) := (blk_cell BX9.out 4).trans rfl
      have q5 : w9.cell? ⟨w.heap.size, 5, none⟩ = some (.int .i64 a0_5) := (blk_cell BM9.out 5).trans rfl
      have xc5 : w9.cell? ⟨gx, 5, none⟩ = some (.int .i64 a0_5) := (blk_cell BX9.out 5).trans rfl
      have q6 : w9.cell? ⟨w.heap.size, 6, none⟩ = some (.int .i64 a0_6) := (blk_cell BM9.out 6).trans rfl
      have xc6 : w9.cell? ⟨gx, 6, none⟩ = some (.int .i64 0) := (blk_cell BX9.out 6).trans rfl
      have q7 : w9.cell? ⟨w.heap.size, 7, none⟩ = some (.int .i64 a0_7) := (blk_cell BM9.out 7).trans rfl
      have xc7 : w9.cell? ⟨gx, 7, none⟩ = some (.int .i64 0) := (blk_cell BX9.out 7).trans rfl
      have q8 : w9.cell? ⟨w.heap.size, 8, none⟩ = some (.int .i64 a0_8) := (blk_cell BM9.out 8).trans rfl
      have xc8 : w9.cell? ⟨gx, 8, none⟩ = some (.int .i64 0) := (blk_cell BX9.out 8).trans rfl
      have q9 : w9.cell? ⟨w.heap.size, 9, none⟩ = some (.int .i64 a0_9) := (blk_cell BM9.out 9).trans rfl
      have xc9 : w9.cell? ⟨gx, 9, none⟩ = some (.int .i64 0) := (blk_cell BX9.out 9).trans rfl
      have q10 : w9.cell? ⟨w.heap.size, 10, none⟩ = some (.int .i64 a0_10) := (blk_cell BM9.out 10).trans rfl
      have xc10 : w9.cell? ⟨gx, 10, none⟩ = some (.int .i64 0) := (blk_cell BX9.out 10).trans rfl
      have q11 : w9.cell? ⟨w.heap.size, 11, none⟩ = some (.slice A0_11 l0_11.length c0_11) := (blk_cell BM9.out 11).trans rfl
      have xc11 : w9.cell? ⟨gx, 11, none⟩ = some (.slice none 0 0) := (blk_cell BX9.out 11).trans rfl
      obtain ⟨ec, hec, hz⟩ := Option.bind_eq_some_iff.1 ((if_neg (by decide)).symm.trans HH4.out)
      have hez : ec = 0 := of_decide_eq_true (Option.some.inj hz)
      subst hez
      have HEC := Aside0.mk hec
      clear hec hz HH4
      go_wp2_with fail
      go_at_call 15
      refine calls_of_args (args' := #[.agg #[.int .i64 7, .int .i64 a0_1, .int .i64 a0_2, .int .i64 a0_3, .int .i64 a0_4, .int .i64 a0_5, .int .i64 0, .int .i64 0, .int .i64 0, .int .i64 0, .int .i64 0, .slice none ([] : List Int).length 0]]) rfl ?_
      with_reducible refine (message_Check.calls k 7 a0_1 a0_2 a0_3 a0_4 a0_5 0 0 0 0 0 none 0 ([] : List Int) 0 _ (Kd.C_nil _ _) (Nat.le_refl _) HEC.out).mono ?_
      rintro e w10 ⟨rfl, hb⟩
      have HB10 := Aside0.mk (below_then HB9.out HB9.out.size hb)
      clear hb BX9 BM9 HB9 q0 xc0 q1 xc1 q2 xc2 q3 xc3 q4 xc4 q5 xc5 q6 xc6 q7 xc7 q8 xc8 q9 xc9 q10 xc10 q11 xc11
      go_wp2_with fail
      go_at_call 11
      with_reducible refine (waybilllaw09_num.calls 0 0 _ rfl).mono ?_
      rintro e w11 ⟨rfl, hd⟩
      have HB11 := Aside0.mk (below_then HB10.out HB10.out.size hd.below)
      clear hd
      go_wp2_with fail
      go_ret
      exact ⟨rfl, HB11.out⟩
  by_cases k3 : a0_0 = 3
  · subst k3
    have hs := HS.out
    have hh2 := HH2.out
    simp only [(show lawF 3 1 a0_1 = a0_1 from by unfold lawF; simp), (show lawF 3 2 a0_2 = a0_2 from by unfold lawF; simp), (show lawF 3 3 a0_3 = a0_3 from by unfold lawF; simp), (show lawF 3 4 a0_4 = a0_4 from by unfold lawF; simp), (show lawF 3 5 a0_5 = a0_5 from by unfold lawF; simp), (show lawF 3 6 a0_6 = a0_6 from by unfold lawF; simp), (show lawF 3 7 a0_7 = a0_7 from by unfold lawF; simp), (show lawF 3 8 a0_8 = a0_8 from by unfold lawF; simp), (show lawF 3 9 a0_9 = a0_9 from by unfold lawF; simp), (show lawF 3 10 a0_10 = a0_10 from by unfold lawF; simp), (show lawD 3 l0_11 = (l0_11 : List Int) from by unfold lawD; simp)] at hs hh2
    have HS3 := Aside0.mk hs
    have HH3 := Aside0.mk hh2
    clear hs hh2 HS HH2 k1 k8 k6 k7
    go_upto_region 13 with fail
    obtain ⟨w7, hw7⟩ : ∃ W, W = w6 := ⟨_, rfl⟩
    rw [← hw7]
    have BX7 := Aside0.mk (show w7.heap[gx]? = some (.cells #[.int .i64 3, .int .i64 a0_1, .int .i64 a0_2, .int .i64 a0_3, .int .i64 a0_4, .int .i64 a0_5, .int .i64 a0_6, .int .i64 a0_7, .int .i64 a0_8, .int .i64 a0_9, .int .i64 a0_10, .slice A0_11 l0_11.length c0_11] 25 (0, 0)) by rw [hw7]; exact BX6.out)
    have BM7 := Aside0.mk (show w7.heap[w.heap.size]? = some (.cells #[.int .i64 3, .int .i64 a0_1, .int .i64 a0_2, .int .i64 a0_3, .int .i64 a0_4, .int .i64 a0_5, .int .i64 a0_6, .int .i64 a0_7, .int .i64 a0_8, .int .i64 a0_9, .int .i64 a0_10, .slice A0_11 l0_11.length c0_11] 25 (0, 0)) by rw [hw7]; exact BM6.out)
    have HB7 := Aside0.mk (show Below w.heap.size w w7 by rw [hw7]; exact HB6.out)
    clear hw7 BX6 BM6 HB6 q0 xc0 q1 xc1 q2 xc2 q3 xc3 q4 xc4 q5 xc5 q6 xc6 q7 xc7 q8 xc8 q9 xc9 q10 xc10 q11 xc11 xf0 xf1 xf2 xf3 xf4 xf5 xf6 xf7 xf8 xf9 xf10 xf11
    have q0 : w7.cell? ⟨w.heap.size, 0, none⟩ = some (.int .i64 3) := (blk_cell BM7.out 0).trans rfl
    have xc0 : w7.cell? ⟨gx, 0, none⟩ = some (.int .i64 3) := (blk_cell BX7.out 0).trans rfl
    have q1 : w7.cell? ⟨w.heap.size, 1, none⟩ = some (.int .i64 a0_1) := (blk_cell BM7.out 1).trans rfl
    have xc1 : w7.cell? ⟨gx, 1, none⟩ = some (.int .i64 a0_1) := (blk_cell BX7.out 1).trans rfl
    have q2 : w7.cell? ⟨w.heap.size, 2, none⟩ = some (.int .i64 a0_2) := (blk_cell BM7.out 2).trans rfl
    have xc2 : w7.cell? ⟨gx, 2, none⟩ = some (.int .i64 a0_2) := (blk_cell BX7.out 2).trans rfl
    have q3 : w7.cell? ⟨w.heap.size, 3, none⟩ = some (.int .i64 a0_3) := (blk_cell BM7.out 3).trans rfl
    have xc3 : w7.cell? ⟨gx, 3, none⟩ = some (.int .i64 a0_3) := (blk_cell BX7.out 3).trans rfl
    have q4 : w7.cell? ⟨w.heap.size, 4, none⟩ = some (.int .i64 a0_4) := (blk_cell BM7.out 4).trans rfl
    have xc4 : w7.cell? ⟨gx, 4, none⟩ = some (.int .i64 a0_4) := (blk_cell BX7.out 4).trans rfl
    have q5 : w7.cell? ⟨w.heap.size, 5, none⟩ = some (.int .i64 a0_5) := (blk_cell BM7.out 5).trans rfl
    have xc5 : w7.cell? ⟨gx, 5, none⟩ = some (.int .i64 a0_5) := (blk_cell BX7.out 5).trans rfl
    have q6 : w7.cell? ⟨w.heap.size, 6, none⟩ = some (.int .i64 a0_6) := (blk_cell BM7.out 6).trans rfl
    have xc6 : w7.cell? ⟨gx, 6, none⟩ = some (.int .i64 a0_6) := (blk_cell BX7.out 6).trans rfl
    have q7 : w7.cell? ⟨w.heap.size, 7, none⟩ = some (.int .i64 a0_7) := (blk_cell BM7.out 7).trans rfl
    have xc7 : w7.cell? ⟨gx, 7, none⟩ = some (.int .i64 a0_7) := (blk_cell BX7.out 7).trans rfl
    have q8 : w7.cell? ⟨w.heap.size, 8, none⟩ = some (.int .i64 a0_8) := (blk_cell BM7.out 8).trans rfl
    have xc8 : w7.cell? ⟨gx, 8, none⟩ = some (.int .i64 a0_8) := (blk_cell BX7.out 8).trans rfl
    have q9 : w7.cell? ⟨w.heap.size, 9, none⟩ = some (.int .i64 a0_9) := (blk_cell BM7.out 9).trans rfl
    have xc9 : w7.cell? ⟨gx, 9, none⟩ = some (.int .i64 a0_9) := (blk_cell BX7.out 9).trans rfl
    have q10 : w7.cell? ⟨w.heap.size, 10, none⟩ = some (.int .i64 a0_10) := (blk_cell BM7.out 10).trans rfl
    have xc10 : w7.cell? ⟨gx, 10, none⟩ = some (.int .i64 a0_10) := (blk_cell BX7.out 10).trans rfl
    have q11 : w7.cell? ⟨w.heap.size, 11, none⟩ = some (.slice A0_11 l0_11.length c0_11) := (blk_cell BM7.out 11).trans rfl
    have xc11 : w7.cell? ⟨gx, 11, none⟩ = some (.slice A0_11 l0_11.length c0_11) := (blk_cell BX7.out 11).trans rfl
    go_wp2_with fail
    go_at_call 12
    refine calls_of_args (args' := #[.agg #[.int .i64 3, .int .i64 a0_1, .int .i64 a0_2, .int .i64 a0_3, .int .i64 a0_4, .int .i64 a0_5, .int .i64 a0_6, .int .i64 a0_7, .int .i64 a0_8, .int .i64 a0_9, .int .i64 a0_10, .slice A0_11 (l0_11 : List Int).length c0_11], .agg #[.int .i64 3, .int .i64 a0_1, .int .i64 a0_2, .int .i64 a0_3, .int .i64 a0_4, .int .i64 a0_5, .int .i64 a0_6, .int .i64 a0_7, .int .i64 a0_8, .int .i64 a0_9, .int .i64 a0_10, .slice A0_11 l0_11.length c0_11]]) rfl ?_
    with_reducible refine (waybillplain_SameMsg.calls 3 a0_1 a0_2 a0_3 a0_4 a0_5 a0_6 a0_7 a0_8 a0_9 a0_10 A0_11 c0_11 (l0_11 : List Int) 3 a0_1 a0_2 a0_3 a0_4 a0_5 a0_6 a0_7 a0_8 a0_9 a0_10 A0_11 c0_11 l0_11 s _ (Kd.C_below HR.out HB7.out) HC.out (Kd.C_below HR.out HB7.out) HC.out HS3.out).mono ?_
    rintro e w8 ⟨rfl, hb⟩
    have BX8 := Aside0.mk (blk_below BX7.out hb)
    have BM8 := Aside0.mk (blk_below BM7.out hb)
    have HB8 := Aside0.mk (below_then HB7.out HB7.out.size hb)
    clear hb BX7 BM7 HB7 q0 xc0 q1 xc1 q2 xc2 q3 xc3 q4 xc4 q5 xc5 q6 xc6 q7 xc7 q8 xc8 q9 xc9 q10 xc10 q11 xc11
    cases s with
    | true =>
      go_wp2_with fail
      go_ret
      exact ⟨rfl, HB8.out⟩
    | false =>
      by_cases e9 : eb = 9
      case neg =>
        have := (if_neg e9).symm.trans ((if_neg (by decide)).symm.trans HH3.out)
        cases this
      have y9 : (eb == 9) = true := beq_iff_eq.mpr e9
      have HH4 := Aside0.mk ((if_pos e9).symm.trans ((if_neg (by decide)).symm.trans HH3.out))
      clear HH3 e9
      go_wp2_with fail
      go_at_call 11
      with_reducible refine (waybilllaw09_num.calls eb eb _ rfl).mono ?_
      rintro e w9 ⟨rfl, hd⟩
      have BX9 := Aside0.mk (blk_below BX8.out hd.below)
      have BM9 := Aside0.mk (blk_below BM8.out hd.below)
      have HB9 := Aside0.mk (below_then HB8.out HB8.out.size hd.below)
      clear hd BX8 BM8 HB8
      have q0 : w9.cell? ⟨w.heap.size, 0, none⟩ = some (.int .i64 3) := (blk_cell BM9.out 0).trans rfl
      have xc0 : w9.cell? ⟨gx, 0, none⟩ = some (.int .i64 3) := (blk_cell BX9.out 0).trans rfl
      have q1 : w9.cell? ⟨w.heap.size, 1, none⟩ = some (.int .i64 a0_1) := (blk_cell BM9.out 1).trans rfl
      have xc1 : w9.cell? ⟨gx, 1, none⟩ = some (.int .i64 a0_1) := (blk_cell BX9.out 1).trans rfl
      have q2 : w9.cell? ⟨w.heap.size, 2, none⟩ = some (.int .i64 a0_2) := (blk_cell BM9.out 2).trans rfl
      have xc2 : w9.cell? ⟨gx, 2, none⟩ = some (.int .i64 a0_2) := (blk_cell BX9.out 2).trans rfl
      have q3 : w9.cell? ⟨w.heap.size, 3, none⟩ = some (.int .i64 a0_3) := (blk_cell BM9.out 3).trans rfl
      have xc3 : w9.cell? ⟨gx, 3, none⟩ = some (.int .i64 a0_3) := (blk_cell BX9.out 3).trans rfl
      have q4 : w9.cell? ⟨w.heap.size, 4, none⟩ = some (.int .i64 a0_4) := (blk_cell BM9.out 4).trans rfl
      have xc4 : w9.cell? ⟨gx, 4, none⟩ = some (.int .i64 a0_4) := (blk_cell BX9.out 4).trans rfl
      have q5 : w9.cell? ⟨w.heap.size, 5, none⟩ = some (.int .i64 a0_5) := (blk_cell BM9.out 5).trans rfl
      have xc5 : w9.cell? ⟨gx, 5, none⟩ = some (.int .i64 a0_5) := (blk_cell BX9.out 5).trans rfl
      have q6 : w9.cell? ⟨w.heap.size, 6, none⟩ = some (.int .i64 a0_6) := (blk_cell BM9.out 6).trans rfl
      have xc6 : w9.cell? ⟨gx, 6, none⟩ = some (.int .i64 a0_6) := (blk_cell BX9.out 6).trans rfl
      have q7 : w9.cell? ⟨w.heap.size, 7, none⟩ = some (.int .i64 a0_7) := (blk_cell BM9.out 7).trans rfl
      have xc7 : w9.cell? ⟨gx, 7, none⟩ = some (.int .i64 a0_7) := (blk_cell BX9.out 7).trans rfl
      have q8 : w9.cell? ⟨w.heap.size, 8, none⟩ = some (.int .i64 a0_8) := (blk_cell BM9.out 8).trans rfl
      have xc8 : w9.cell? ⟨gx, 8, none⟩ = some (.int .i64 a0_8) := (blk_cell BX9.out 8).trans rfl
      have q9 : w9.cell? ⟨w.heap.size, 9, none⟩ = some (.int .i64 a0_9) := (blk_cell BM9.out 9).trans rfl
      have xc9 : w9.cell? ⟨gx, 9, none⟩ = some (.int .i64 a0_9) := (blk_cell BX9.out 9).trans rfl
      have q10 : w9.cell? ⟨w.heap.size, 10, none⟩ = some (.int .i64 a0_10) := (blk_cell BM9.out 10).trans rfl
      have xc10 : w9.cell? ⟨gx, 10, none⟩ = some (.int .i64 a0_10) := (blk_cell BX9.out 10).trans rfl
      have q11 : w9.cell? ⟨w.heap.size, 11, none⟩ = some (.slice A0_11 l0_11.length c0_11) := (blk_cell BM9.out 11).trans rfl
      have xc11 : w9.cell? ⟨gx, 11, none⟩ = some (.slice A0_11 l0_11.length c0_11) := (blk_cell BX9.out 11).trans rfl
      obtain ⟨ec, hec, hz⟩ := Option.bind_eq_some_iff.1 ((if_neg (by decide)).symm.trans HH4.out)
      have hez : ec = 0 := of_decide_eq_true (Option.some.inj hz)
      subst hez
      have HEC := Aside0.mk hec
      clear hec hz HH4
      go_wp2_with fail
      go_at_call 15
      refine calls_of_args (args' := #[.agg #[.int .i64 3, .int .i64 a0_1, .int .i64 a0_2, .int .i64 a0_3, .int .i64 a0_4, .int .i64 a0_5, .int .i64 a0_6, .int .i64 a0_7, .int .i64 a0_8, .int .i64 a0_9, .int .i64 a0_10, .slice A0_11 (l0_11 : List Int).length c0_11]]) rfl ?_
      with_reducible refine (message_Check.calls k 3 a0_1 a0_2 a0_3 a0_4 a0_5 a0_6 a0_7 a0_8 a0_9 a0_10 A0_11 c0_11 (l0_11 : List Int) 0 _ (Kd.C_below HR.out HB9.out) HC.out HEC.out).mono ?_
      rintro e w10 ⟨rfl, hb⟩
      have HB10 := Aside0.mk (below_then HB9.out HB9.out.size hb)
      clear hb BX9 BM9 HB9 q0 xc0 q1 xc1 q2 xc2 q3 xc3 q4 xc4 q5 xc5 q6 xc6 q7 xc7 q8 xc8 q9 xc9 q10 xc10 q11 xc11
      go_wp2_with fail
      go_at_call 11
      with_reducible refine (waybilllaw09_num.calls 0 0 _ rfl).mono ?_
      rintro e w11 ⟨rfl, hd⟩
      have HB11 := Aside0.mk (below_then HB10.out HB10.out.size hd.below)
      clear hd
      go_wp2_with fail
      go_ret
      exact ⟨rfl, HB11.out⟩
  by_cases k4 : a0_0 = 4
  · subst k4
    have hs := HS.out
    have hh2 := HH2.out
    simp only [(show lawF 4 1 a0_1 = a0_1 from by unfold lawF; simp), (show lawF 4 2 a0_2 = a0_2 from by unfold lawF; simp), (show lawF 4 3 a0_3 = a0_3 from by unfold lawF; simp), (show lawF 4 4 a0_4 = a0_4 from by unfold lawF; simp), (show lawF 4 5 a0_5 = a0_5 from by unfold lawF; simp), (show lawF 4 6 a0_6 = a0_6 from by unfold lawF; simp), (show lawF 4 7 a0_7 = a0_7 from by unfold lawF; simp), (show lawF 4 8 a0_8 = a0_8 from by unfold lawF; simp), (show lawF 4 9 a0_9 = a0_9 from by unfold lawF; simp), (show lawF 4 10 a0_10 = a0_10 from by unfold lawF; simp), (show lawD 4 l0_11 = (l0_11 : List Int) from by unfold lawD; simp)] at hs hh2
    have HS3 := Aside0.mk hs
    have HH3 := Aside0.mk hh2
    clear hs hh2 HS HH2 k1 k8 k6 k7 k3
    go_upto_region 13 with fail
    obtain ⟨w7, hw7⟩ : ∃ W, W = w6 := ⟨_, rfl⟩
    rw [← hw7]
    have BX7 := Aside0.mk (show w7.heap[gx]? = some (.cells #[.int .i64 4, .int .i64 a0_1, .int .i64 a0_2, .int .i64 a0_3, .int .i64 a0_4, .int .i64 a0_5, .int .i64 a0_6, .int .i64 a0_7, .int .i64 a0_8, .int .i64 a0_9, .int .i64 a0_10, .slice A0_11 l0_11.length c0_11] 25 (0, 0)) by rw [hw7]; exact BX6.out)
    have BM7 := Aside0.mk (show w7.heap[w.heap.size]? = some (.cells #[.int .i64 4, .int .i64 a0_1, .int .i64 a0_2, .int .i64 a0_3, .int .i64 a0_4, .int .i64 a0_5, .int .i64 a0_6, .int .i64 a0_7, .int .i64 a0_8, .int .i64 a0_9, .int .i64 a0_10, .slice A0_11 l0_11.length c0_11] 25 (0, 0)) by rw [hw7]; exact BM6.out)
    have HB7 := Aside0.mk (show Below w.heap.size w w7 by rw [hw7]; exact HB6.out)
    clear hw7 BX6 BM6 HB6 q0 xc0 q1 xc1 q2 xc2 q3 xc3 q4 xc4 q5 xc5 q6 xc6 q7 xc7 q8 xc8 q9 xc9 q10 xc10 q11 xc11 xf0 xf1 xf2 xf3 xf4 xf5 xf6 xf7 xf8 xf9 xf10 xf11
    have q0 : w7.cell? ⟨w.heap.size, 0, none⟩ = some (.int .i64 4) := (blk_cell BM7.out 0).trans rfl
    have xc0 : w7.cell? ⟨gx, 0, none⟩ = some (.int .i64 4) := (blk_cell BX7.out 0).trans rfl
    have q1 : w7.cell? ⟨w.heap.size, 1, none⟩ = some (.int .i64 a0_1) := (blk_cell BM7.out 1).trans rfl
    have xc1 : w7.cell? ⟨gx, 1, none⟩ = some (.int .i64 a0_1) := (blk_cell BX7.out 1).trans rfl
    have q2 : w7.cell? ⟨w.heap.size, 2, none⟩ = some (.int .i64 a0_2) := (blk_cell BM7.out 2).trans rfl
    have xc2 : w7.cell? ⟨gx, 2, none⟩ = some (.int .i64 a0_2) := (blk_cell BX7.out 2).trans rfl
    have q3 : w7.cell? ⟨w.heap.size, 3, none⟩ = some (.int .i64 a0_3) := (blk_cell BM7.out 3).trans rfl
    have xc3 : w7.cell? ⟨gx, 3, none⟩ = some (.int .i64 a0_3) := (blk_cell BX7.out 3).trans rfl
    have q4 : w7.cell? ⟨w.heap.size, 4, none⟩ = some (.int .i64 a0_4) := (blk_cell BM7.out 4).trans rfl
    have xc4 : w7.cell? ⟨gx, 4, none⟩ = some (.int .i64 a0_4) := (blk_cell BX7.out 4).trans rfl
    have q5 : w7.cell? ⟨w.heap.size, 5, none⟩ = some (.int .i64 a0_5) := (blk_cell BM7.out 5).trans rfl
    have xc5 : w7.cell? ⟨gx, 5, none⟩ = some (.int .i64 a0_5) := (blk_cell BX7.out 5).trans rfl
    have q6 : w7.cell? ⟨w.heap.size, 6, none⟩ = some (.int .i64 a0_6) := (blk_cell BM7.out 6).trans rfl
    have xc6 : w7.cell? ⟨gx, 6, none⟩ = some (.int .i64 a0_6) := (blk_cell BX7.out 6).trans rfl
    have q7 : w7.cell? ⟨w.heap.size, 7, none⟩ = some (.int .i64 a0_7) := (blk_cell BM7.out 7).trans rfl
    have xc7 : w7.cell? ⟨gx, 7, none⟩ = some (.int .i64 a0_7) := (blk_cell BX7.out 7).trans rfl
    have q8 : w7.cell? ⟨w.heap.size, 8, none⟩ = some (.int .i64 a0_8) := (blk_cell BM7.out 8).trans rfl
    have xc8 : w7.cell? ⟨gx, 8, none⟩ = some (.int .i64 a0_8) := (blk_cell BX7.out 8).trans rfl
    have q9 : w7.cell? ⟨w.heap.size, 9, none⟩ = some (.int .i64 a0_9) := (blk_cell BM7.out 9).trans rfl
    have xc9 : w7.cell? ⟨gx, 9, none⟩ = some (.int .i64 a0_9) := (blk_cell BX7.out 9).trans rfl
    have q10 : w7.cell? ⟨w.heap.size, 10, none⟩ = some (.int .i64 a0_10) := (blk_cell BM7.out 10).trans rfl
    have xc10 : w7.cell? ⟨gx, 10, none⟩ = some (.int .i64 a0_10) := (blk_cell BX7.out 10).trans rfl
    have q11 : w7.cell? ⟨w.heap.size, 11, none⟩ = some (.slice A0_11 l0_11.length c0_11) := (blk_cell BM7.out 11).trans rfl
    have xc11 : w7.cell? ⟨gx, 11, none⟩ = some (.slice A0_11 l0_11.length c0_11) := (blk_cell BX7.out 11).trans rfl
    go_wp2_with fail
    go_at_call 12
    refine calls_of_args (args' := #[.agg #[.int .i64 4, .int .i64 a0_1, .int .i64 a0_2, .int .i64 a0_3, .int .i64 a0_4, .int .i64 a0_5, .int .i64 a0_6, .int .i64 a0_7, .int .i64 a0_8, .int .i64 a0_9, .int .i64 a0_10, .slice A0_11 (l0_11 : List Int).length c0_11], .agg #[.int .i64 4, .int .i64 a0_1, .int .i64 a0_2, .int .i64 a0_3, .int .i64 a0_4, .int .i64 a0_5, .int .i64 a0_6, .int .i64 a0_7, .int .i64 a0_8, .int .i64 a0_9, .int .i64 a0_10, .slice A0_11 l0_11.length c0_11]]) rfl ?_
    with_reducible refine (waybillplain_SameMsg.calls 4 a0_1 a0_2 a0_3 a0_4 a0_5 a0_6 a0_7 a0_8 a0_9 a0_10 A0_11 c0_11 (l0_11 : List Int) 4 a0_1 a0_2 a0_3 a0_4 a0_5 a0_6 a0_7 a0_8 a0_9 a0_10 A0_11 c0_11 l0_11 s _ (Kd.C_below HR.out HB7.out) HC.out (Kd.C_below HR.out HB7.out) HC.out HS3.out).mono ?_
    rintro e w8 ⟨rfl, hb⟩
    have BX8 := Aside0.mk (blk_below BX7.out hb)
    have BM8 := Aside0.mk (blk_below BM7.out hb)
    have HB8 := Aside0.mk (below_then HB7.out HB7.out.size hb)
    clear hb BX7 BM7 HB7 q0 xc0 q1 xc1 q2 xc2 q3 xc3 q4 xc4 q5 xc5 q6 xc6 q7 xc7 q8 xc8 q9 xc9 q10 xc10 q11 xc11
    cases s with
    | true =>
      go_wp2_with fail
      go_ret
      exact ⟨rfl, HB8.out⟩
    | false =>
      by_cases e9 : eb = 9
      case neg =>
        have := (if_neg e9).symm.trans ((if_neg (by decide)).symm.trans HH3.out)
        cases this
      have y9 : (eb == 9) = true := beq_iff_eq.mpr e9
      have HH4 := Aside0.mk ((if_pos e9).symm.trans ((if_neg (by decide)).symm.trans HH3.out))
      clear HH3 e9
      go_wp2_with fail
      go_at_call 11
      with_reducible refine (waybilllaw09_num.calls eb eb _ rfl).mono ?_
      rintro e w9 ⟨rfl, hd⟩
      have BX9 := Aside0.mk (blk_below BX8.out hd.below)
      have BM9 := Aside0.mk (blk_below BM8.out hd.below)
      have HB9 := Aside0.mk (below_then HB8.out HB8.out.size hd.below)
      clear hd BX8 BM8 HB8
      have q0 : w9.cell? ⟨w.heap.size, 0, none⟩ = some (.int .i64 4) := (blk_cell BM9.out 0).trans rfl
      have xc0 : w9.cell? ⟨gx, 0, none⟩ = some (.int .i64 4) := (blk_cell BX9.out 0).trans rfl
      have q1 : w9.cell? ⟨w.heap.size, 1, none⟩ = some (.int .i64 a0_1) := (blk_cell BM9.out 1).trans rfl
      have xc1 : w9.cell? ⟨gx, 1, none⟩ = some (.int .i64 a0_1) := (blk_cell BX9.out 1).trans rfl
      have q2 : w9.cell? ⟨w.heap.size, 2, none⟩ = some (.int .i64 a0_2) := (blk_cell BM9.out 2).trans rfl
      have xc2 : w9.cell? ⟨gx, 2, none⟩ = some (.int .i64 a0_2) := (blk_cell BX9.out 2).trans rfl
      have q3 : w9.cell? ⟨w.heap.size, 3, none⟩ = some (.int .i64 a0_3) := (blk_cell BM9.out 3).trans rfl
      have xc3 : w9.cell? ⟨gx, 3, none⟩ = some (.int .i64 a0_3) := (blk_cell BX9.out 3).trans rfl
      have q4 : w9.cell? ⟨w.heap.size, 4, none⟩ = some (.int .i64 a0_4) := (blk_cell BM9.out 4).trans rfl
      have xc4 : w9.cell? ⟨gx, 4, none⟩ = some (.int .i64 a0_4) := (blk_cell BX9.out 4).trans rfl
      have q5 : w9.cell? ⟨w.heap.size, 5, none⟩ = some (.int .i64 a0_5) := (blk_cell BM9.out 5).trans rfl
      have xc5 : w9.cell? ⟨gx, 5, none⟩ = some (.int .i64 a0_5) := (blk_cell BX9.out 5).trans rfl
      have q6 : w9.cell? ⟨w.heap.size, 6, none⟩ = some (.int .i64 a0_6) := (blk_cell BM9.out 6).trans rfl
      have xc6 : w9.cell? ⟨gx, 6, none⟩ = some (.int .i64 a0_6) := (blk_cell BX9.out 6).trans rfl
      have q7 : w9.cell? ⟨w.heap.size, 7, none⟩ = some (.int .i64 a0_7) := (blk_cell BM9.out 7).trans rfl
      have xc7 : w9.cell? ⟨gx, 7, none⟩ = some (.int .i64 a0_7) := (blk_cell BX9.out 7).trans rfl
      have q8 : w9.cell? ⟨w.heap.size, 8, none⟩ = some (.int .i64 a0_8) := (blk_cell BM9.out 8).trans rfl
      have xc8 : w9.cell? ⟨gx, 8, none⟩ = some (.int .i64 a0_8) := (blk_cell BX9.out 8).trans rfl
      have q9 : w9.cell? ⟨w.heap.size, 9, none⟩ = some (.int .i64 a0_9) := (blk_cell BM9.out 9).trans rfl
      have xc9 : w9.cell? ⟨gx, 9, none⟩ = some (.int .i64 a0_9) := (blk_cell BX9.out 9).trans rfl
      have q10 : w9.cell? ⟨w.heap.size, 10, none⟩ = some (.int .i64 a0_10) := (blk_cell BM9.out 10).trans rfl
      have xc10 : w9.cell? ⟨gx, 10, none⟩ = some (.int .i64 a0_10) := (blk_cell BX9.out 10).trans rfl
      have q11 : w9.cell? ⟨w.heap.size, 11, none⟩ = some (.slice A0_11 l0_11.length c0_11) := (blk_cell BM9.out 11).trans rfl
      have xc11 : w9.cell? ⟨gx, 11, none⟩ = some (.slice A0_11 l0_11.length c0_11) := (blk_cell BX9.out 11).trans rfl
      obtain ⟨ec, hec, hz⟩ := Option.bind_eq_some_iff.1 ((if_neg (by decide)).symm.trans HH4.out)
      have hez : ec = 0 := of_decide_eq_true (Option.some.inj hz)
      subst hez
      have HEC := Aside0.mk hec
      clear hec hz HH4
      go_wp2_with fail
      go_at_call 15
      refine calls_of_args (args' := #[.agg #[.int .i64 4, .int .i64 a0_1, .int .i64 a0_2, .int .i64 a0_3, .int .i64 a0_4, .int .i64 a0_5, .int .i64 a0_6, .int .i64 a0_7, .int .i64 a0_8, .int .i64 a0_9, .int .i64 a0_10, .slice A0_11 (l0_11 : List Int).length c0_11]]) rfl ?_
      with_reducible refine (message_Check.calls k 4 a0_1 a0_2 a0_3 a0_4 a0_5 a0_6 a0_7 a0_8 a0_9 a0_10 A0_11 c0_11 (l0_11 : List Int) 0 _ (Kd.C_below HR.out HB9.out) HC.out HEC.out).mono ?_
      rintro e w10 ⟨rfl, hb⟩
      have HB10 := Aside0.mk (below_then HB9.out HB9.out.size hb)
      clear hb BX9 BM9 HB9 q0 xc0 q1 xc1 q2 xc2 q3 xc3 q4 xc4 q5 xc5 q6 xc6 q7 xc7 q8 xc8 q9 xc9 q10 xc10 q11 xc11
      go_wp2_with fail
      go_at_call 11
      with_reducible refine (waybilllaw09_num.calls 0 0 _ rfl).mono ?_
      rintro e w11 ⟨rfl, hd⟩
      have HB11 := Aside0.mk (below_then HB10.out HB10.out.size hd.below)
      clear hd
      go_wp2_with fail
      go_ret
      exact ⟨rfl, HB11.out⟩
  have d1 : (a0_0 == 1) = false := beq_eq_false_iff_ne.mpr k1
  have d8 : (a0_0 == 8) = false := beq_eq_false_iff_ne.mpr k8
  have d6 : (a0_0 == 6) = false := beq_eq_false_iff_ne.mpr k6
  have d7 : (a0_0 == 7) = false := beq_eq_false_iff_ne.mpr k7
  have d3 : (a0_0 == 3) = false := beq_eq_false_iff_ne.mpr k3
  have dn3 : (a0_0 != 3) = true := bne_iff_ne.mpr k3
  have d4 : (a0_0 == 4) = false := beq_eq_false_iff_ne.mpr k4
  have dn4 : (a0_0 != 4) = true := bne_iff_ne.mpr k4
  have hs := HS.out
  have hh2 := HH2.out
  simp only [(show lawF a0_0 1 a0_1 = a0_1 from by unfold lawF; rw [if_neg (fun h => h.elim k1 k8), if_neg (fun h => h.elim k6 k7)]), (show lawF a0_0 2 a0_2 = a0_2 from by unfold lawF; rw [if_neg (fun h => h.elim k1 k8), if_neg (fun h => h.elim k6 k7)]), (show lawF a0_0 3 a0_3 = a0_3 from by unfold lawF; rw [if_neg (fun h => h.elim k1 k8), if_neg (fun h => h.elim k6 k7)]), (show lawF a0_0 4 a0_4 = a0_4 from by unfold lawF; rw [if_neg (fun h => h.elim k1 k8), if_neg (fun h => h.elim k6 k7)]), (show lawF a0_0 5 a0_5 = a0_5 from by unfold lawF; rw [if_neg (fun h => h.elim k1 k8), if_neg (fun h => h.elim k6 k7)]), (show lawF a0_0 6 a0_6 = a0_6 from by unfold lawF; rw [if_neg (fun h => h.elim k1 k8), if_neg (fun h => h.elim k6 k7)]), (show lawF a0_0 7 a0_7 = a0_7 from by unfold lawF; rw [if_neg (fun h => h.elim k1 k8), if_neg (fun h => h.elim k6 k7)]), (show lawF a0_0 8 a0_8 = a0_8 from by unfold lawF; rw [if_neg (fun h => h.elim k1 k8), if_neg (fun h => h.elim k6 k7)]), (show lawF a0_0 9 a0_9 = a0_9 from by unfold lawF; rw [if_neg (fun h => h.elim k1 k8), if_neg (fun h => h.elim k6 k7)]), (show lawF a0_0 10 a0_10 = a0_10 from by unfold lawF; rw [if_neg (fun h => h.elim k1 k8), if_neg (fun h => h.elim k6 k7)]), (show lawD a0_0 l0_11 = ([] : List Int) from by unfold lawD; rw [if_neg (fun h => h.elim k3 k4)])] at hs hh2
  have HS3 := Aside0.mk hs
  have HH3 := Aside0.mk hh2
  clear hs hh2 HS HH2 k1 k8 k6 k7 k3 k4
  go_upto_region 13 with fail
  obtain ⟨w7, hw7⟩ : ∃ W, W = (w6.setCell ⟨gx, 11, none⟩ (.slice none 0 0)) := ⟨_, rfl⟩
  rw [← hw7]
  have BX7 := Aside0.mk (show w7.heap[gx]? = some (.cells #[.int .i64 a0_0, .int .i64 a0_1, .int .i64 a0_2, .int .i64 a0_3, .int .i64 a0_4, .int .i64 a0_5, .int .i64 a0_6, .int .i64 a0_7, .int .i64 a0_8, .int .i64 a0_9, .int .i64 a0_10, .slice none 0 0] 25 (0, 0)) by rw [hw7]; exact blk_put BX6.out 11 _ rfl)
  have BM7 := Aside0.mk (show w7.heap[w.heap.size]? = some (.cells #[.int .i64 a0_0, .int .i64 a0_1, .int .i64 a0_2, .int .i64 a0_3, .int .i64 a0_4, .int .i64 a0_5, .int .i64 a0_6, .int .i64 a0_7, .int .i64 a0_8, .int .i64 a0_9, .int .i64 a0_10, .slice A0_11 l0_11.length c0_11] 25 (0, 0)) by rw [hw7]; exact blk_far BM6.out (by show w.heap.size ≠ gx; omega) _)
  have HB7 := Aside0.mk (show Below w.heap.size w w7 by rw [hw7]; exact below_set HB6.out (show w.heap.size ≤ gx by omega))
  clear hw7 BX6 BM6 HB6 q0 xc0 q1 xc1 q2 xc2 q3 xc3 q4 xc4 q5 xc5 q6 xc6 q7 xc7 q8 xc8 q9 xc9 q10 xc10 q11 xc11 xf0 xf1 xf2 xf3 xf4 xf5 xf6 xf7 xf8 xf9 xf10 xf11
  have q0 : w7.cell? ⟨w.heap.size, 0, none⟩ = some (.int .i64 a0_0) := (blk_cell BM7.out 0).trans rfl
  have xc0 : w7.cell? ⟨gx, 0, none⟩ = some (.int .i64 a0_0) := (blk_cell BX7.out 0).trans rfl
  have q1 : w7.cell? ⟨w.heap.size, 1, none⟩ = some (.int .i64 a0_1) := (blk_cell BM7.out 1).trans rfl
  have xc1 : w7.cell? ⟨gx, 1, none⟩ = some (.int .i64 a0_1) := (blk_cell BX7.out 1).trans rfl
  have q2 : w7.cell? ⟨w.heap.size, 2, none⟩ = some (.int .i64 a0_2) := (blk_cell BM7.out 2).trans rfl
  have xc2 : w7.cell? ⟨gx, 2, none⟩ = some (.int .i64 a0_2) := (blk_cell BX7.out 2).trans rfl
  have q3 : w7.cell? ⟨w.heap.size, 3, none⟩ = some (.int .i64 a0_3) := (blk_cell BM7.out 3).trans rfl
  have xc3 : w7.cell? ⟨gx, 3, none⟩ = some (.int .i64 a0_3) := (blk_cell BX7.out 3).trans rfl
  have q4 : w7.cell? ⟨w.heap.size, 4, none⟩ = some (.int .i64 a0_4) := (blk_cell BM7.out 4).trans rfl
  have xc4 : w7.cell? ⟨gx, 4, none⟩ = some (.int .i64 a0_4) := (blk_cell BX7.out 4).trans rfl
  have q5 : w7.cell? ⟨w.heap.size, 5, none⟩ = some (.int .i64 a0_5) := (blk_cell BM7.out 5).trans rfl
  have xc5 : w7.cell? ⟨gx, 5, none⟩ = some (.int .i64 a0_5) := (blk_cell BX7.out 5).trans rfl
  have q6 : w7.cell? ⟨w.heap.size, 6, none⟩ = some (.int .i64 a0_6) := (blk_cell BM7.out 6).trans rfl
  have xc6 : w7.cell? ⟨gx, 6, none⟩ = some (.int .i64 a0_6) := (blk_cell BX7.out 6).trans rfl
  have q7 : w7.cell? ⟨w.heap.size, 7, none⟩ = some (.int .i64 a0_7) := (blk_cell BM7.out 7).trans rfl
  have xc7 : w7.cell? ⟨gx, 7, none⟩ = some (.int .i64 a0_7) := (blk_cell BX7.out 7).trans rfl
  have q8 : w7.cell? ⟨w.heap.size, 8, none⟩ = some (.int .i64 a0_8) := (blk_cell BM7.out 8).trans rfl
  have xc8 : w7.cell? ⟨gx, 8, none⟩ = some (.int .i64 a0_8) := (blk_cell BX7.out 8).trans rfl
  have q9 : w7.cell? ⟨w.heap.size, 9, none⟩ = some (.int .i64 a0_9) := (blk_cell BM7.out 9).trans rfl
  have xc9 : w7.cell? ⟨gx, 9, none⟩ = some (.int .i64 a0_9) := (blk_cell BX7.out 9).trans rfl
  have q10 : w7.cell? ⟨w.heap.size, 10, none⟩ = some (.int .i64 a0_10) := (blk_cell BM7.out 10).trans rfl
  have xc10 : w7.cell? ⟨gx, 10, none⟩ = some (.int .i64 a0_10) := (blk_cell BX7.out 10).trans rfl
  have q11 : w7.cell? ⟨w.heap.size, 11, none⟩ = some (.slice A0_11 l0_11.length c0_11) := (blk_cell BM7.out 11).trans rfl
  have xc11 : w7.cell? ⟨gx, 11, none⟩ = some (.slice none 0 0) := (blk_cell BX7.out 11).trans rfl
  go_wp2_with fail
  go_at_call 12
  refine calls_of_args (args' := #[.agg #[.int .i64 a0_0, .int .i64 a0_1, .int .i64 a0_2, .int .i64 a0_3, .int .i64 a0_4, .int .i64 a0_5, .int .i64 a0_6, .int .i64 a0_7, .int .i64 a0_8, .int .i64 a0_9, .int .i64 a0_10, .slice none ([] : List Int).length 0], .agg #[.int .i64 a0_0, .int .i64 a0_1, .int .i64 a0_2, .int .i64 a0_3, .int .i64 a0_4, .int .i64 a0_5, .int .i64 a0_6, .int .i64 a0_7, .int .i64 a0_8, .int .i64 a0_9, .int .i64 a0_10, .slice A0_11 l0_11.length c0_11]]) rfl ?_
  with_reducible refine (waybillplain_SameMsg.calls a0_0 a0_1 a0_2 a0_3 a0_4 a0_5 a0_6 a0_7 a0_8 a0_9 a0_10 none 0 ([] : List Int) a0_0 a0_1 a0_2 a0_3 a0_4 a0_5 a0_6 a0_7 a0_8 a0_9 a0_10 A0_11 c0_11 l0_11 s _ (Kd.C_nil _ _) (Nat.le_refl _) (Kd.C_below HR.out HB7.out) HC.out HS3.out).mono ?_
  rintro e w8 ⟨rfl, hb⟩
  have BX8 := Aside0.mk (blk_below BX7.out hb)
  have BM8 := Aside0.mk (blk_below BM7.out hb)
  have HB8 := Aside0.mk (below_then HB7.out HB7.out.size hb)
  clear hb BX7 BM7 HB7 q0 xc0 q1 xc1 q2 xc2 q3 xc3 q4 xc4 q5 xc5 q6 xc6 q7 xc7 q8 xc8 q9 xc9 q10 xc10 q11 xc11
  cases s with
  | true =>
    go_wp2_with fail
    go_ret
    exact ⟨rfl, HB8.out⟩
  | false =>
    by_cases e9 : eb = 9
    case neg =>
      have := (if_neg e9).symm.trans ((if_neg (by decide)).symm.trans HH3.out)
      cases this
    have y9 : (eb == 9) = true := beq_iff_eq.mpr e9
    have HH4 := Aside0.mk ((if_pos e9).symm.trans ((if_neg (by decide)).symm.trans HH3.out))
    clear HH3 e9
    go_wp2_with fail
    go_at_call 11
    with_reducible refine (waybilllaw09_num.calls eb eb _ rfl).mono ?_
    rintro e w9 ⟨rfl, hd⟩
    have BX9 := Aside0.mk (blk_below BX8.out hd.below)
    have BM9 := Aside0.mk (blk_below BM8.out hd.below)
    have HB9 := Aside0.mk (below_then HB8.out HB8.out.size hd.below)
    clear hd BX8 BM8 HB8
    have q0 : w9.cell? ⟨w.heap.size, 0, none⟩ = some (.int .i64 a0_0) := (blk_cell BM9.out 0).trans rfl
    have xc0 : w9.cell? ⟨gx, 0, none⟩ = some (.int .i64 a0_0) := (blk_cell BX9.out 0).trans rfl
    have q1 : w9.cell? ⟨w.heap.size, 1, none⟩ = some (.int .i64 a0_1) := (blk_cell BM9.out 1).trans rfl
    have xc1 : w9.cell? ⟨gx, 1, none⟩ = some (.int .i64 a0_1) := (blk_cell BX9.out 1).trans rfl
    have q2 : w9.cell? ⟨w.heap.size, 2, none⟩ = some (.int .i64 a0_2) := (blk_cell BM9.out 2).trans rfl
    have xc2 : w9.cell? ⟨gx, 2, none⟩ = some (.int .i64 a0_2) := (blk_cell BX9.out 2).trans rfl
    have q3 : w9.cell? ⟨w.heap.size, 3, none⟩ = some (.int .i64 a0_3) := (blk_cell BM9.out 3).trans rfl
    have xc3 : w9.cell? ⟨gx, 3, none⟩ = some (.int .i64 a0_3) := (blk_cell BX9.out 3).trans rfl
    have q4 : w9.cell? ⟨w.heap.size, 4, none⟩ = some (.int .i64 a0_4) := (blk_cell BM9.out 4).trans rfl
    have xc4 : w9.cell? ⟨gx, 4, none⟩ = some (.int .i64 a0_4) := (blk_cell BX9.out 4).trans rfl
    have q5 : w9.cell? ⟨w.heap.size, 5, none⟩ = some (.int .i64 a0_5) := (blk_cell BM9.out 5).trans rfl
    have xc5 : w9.cell? ⟨gx, 5, none⟩ = some (.int .i64 a0_5) := (blk_cell BX9.out 5).trans rfl
    have q6 : w9.cell? ⟨w.heap.size, 6, none⟩ = some (.int .i64 a0_6) := (blk_cell BM9.out 6).trans rfl
    have xc6 : w9.cell? ⟨gx, 6, none⟩ = some (.int .i64 a0_6) := (blk_cell BX9.out 6).trans rfl
    have q7 : w9.cell? ⟨w.heap.size, 7, none⟩ = some (.int .i64 a0_7) := (blk_cell BM9.out 7).trans rfl
    have xc7 : w9.cell? ⟨gx, 7, none⟩ = some (.int .i64 a0_7) := (blk_cell BX9.out 7).trans rfl
    have q8 : w9.cell? ⟨w.heap.size, 8, none⟩ = some (.int .i64 a0_8) := (blk_cell BM9.out 8).trans rfl
    have xc8 : w9.cell? ⟨gx, 8, none⟩ = some (.int .i64 a0_8) := (blk_cell BX9.out 8).trans rfl
    have q9 : w9.cell? ⟨w.heap.size, 9, none⟩ = some (.int .i64 a0_9) := (blk_cell BM9.out 9).trans rfl
    have xc9 : w9.cell? ⟨gx, 9, none⟩ = some (.int .i64 a0_9) := (blk_cell BX9.out 9).trans rfl
    have q10 : w9.cell? ⟨w.heap.size, 10, none⟩ = some (.int .i64 a0_10) := (blk_cell BM9.out 10).trans rfl
    have xc10 : w9.cell? ⟨gx, 10, none⟩ = some (.int .i64 a0_10) := (blk_cell BX9.out 10).trans rfl
    have q11 : w9.cell? ⟨w.heap.size, 11, none⟩ = some (.slice A0_11 l0_11.length c0_11) := (blk_cell BM9.out 11).trans rfl
    have xc11 : w9.cell? ⟨gx, 11, none⟩ = some (.slice none 0 0) := (blk_cell BX9.out 11).trans rfl
    by_cases k2 : a0_0 = 2
    · have d2 : (a0_0 == 2) = true := beq_iff_eq.mpr k2
      clear k2 HH4
      go_wp2_with fail
      go_ret
      exact ⟨rfl, HB9.out⟩
    have d2 : (a0_0 == 2) = false := beq_eq_false_iff_ne.mpr k2
    by_cases k5 : a0_0 = 5
    · have d5 : (a0_0 == 5) = true := beq_iff_eq.mpr k5
      clear k2 k5 HH4
      go_wp2_with fail
      go_ret
      exact ⟨rfl, HB9.out⟩
    have d5 : (a0_0 == 5) = false := beq_eq_false_iff_ne.mpr k5
    obtain ⟨ec, hec, hz⟩ := Option.bind_eq_some_iff.1 ((if_neg (fun h => h.elim k2 k5)).symm.trans HH4.out)
    have hez : ec = 0 := of_decide_eq_true (Option.some.inj hz)
    subst hez
    have HEC := Aside0.mk hec
    clear hec hz HH4 k2 k5
    go_wp2_with fail
    go_at_call 15
    refine calls_of_args (args' := #[.agg #[.int .i64 a0_0, .int .i64 a0_1, .int .i64 a0_2, .int .i64 a0_3, .int .i64 a0_4, .int .i64 a0_5, .int .i64 a0_6, .int .i64 a0_7, .int .i64 a0_8, .int .i64 a0_9, .int .i64 a0_10, .slice none ([] : List Int).length 0]]) rfl ?_
    with_reducible refine (message_Check.calls k a0_0 a0_1 a0_2 a0_3 a0_4 a0_5 a0_6 a0_7 a0_8 a0_9 a0_10 none 0 ([] : List Int) 0 _ (Kd.C_nil _ _) (Nat.le_refl _) HEC.out).mono ?_
    rintro e w10 ⟨rfl, hb⟩
    have HB10 := Aside0.mk (below_then HB9.out HB9.out.size hb)
    clear hb BX9 BM9 HB9 q0 xc0 q1 xc1 q2 xc2 q3 xc3 q4 xc4 q5 xc5 q6 xc6 q7 xc7 q8 xc8 q9 xc9 q10 xc10 q11 xc11
    go_wp2_with fail
    go_at_call 11
    with_reducible refine (waybilllaw09_num.calls 0 0 _ rfl).mono ?_
    rintro e w11 ⟨rfl, hd⟩
    have HB11 := Aside0.mk (below_then HB10.out HB10.out.size hd.below)
    clear hd
    go_wp2_with fail
    go_ret
    exact ⟨rfl, HB11.out⟩
end Go.Proofs.Ytkddlhcpplkpbaa.G
end
