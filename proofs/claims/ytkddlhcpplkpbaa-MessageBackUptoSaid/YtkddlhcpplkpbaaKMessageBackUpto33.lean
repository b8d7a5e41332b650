/- MessageBackUpto: texts of this claim, packed: what the kit's print has written for it and own texts, without what its proof does not reach. -/
import Derived.Test.YtkddlhcpplkpbaaKMessageBackUpto16
import Derived.Test.YtkddlhcpplkpbaaKMessageBackUpto21
import Derived.Test.YtkddlhcpplkpbaaKMessageBackUpto24
import Derived.Test.YtkddlhcpplkpbaaKMessageBackUpto27
import Derived.Test.YtkddlhcpplkpbaaKMessageBackUpto29
import Derived.Test.YtkddlhcpplkpbaaKMessageBackUpto31
import Derived.Test.YtkddlhcpplkpbaaKMessageBackUpto32
set_option linter.unusedVariables false
set_option linter.unusedSimpArgs false
set_option linter.unusedSectionVars false
section
namespace Go.Proofs.Ytkddlhcpplkpbaa.G
open WB Go.RowKit Go.Proofs.YtkddlhcpplkpbaaW.PrintWords Go.Proofs.YtkddlhcpplkpbaaW.PrintLast Go.Proofs.YtkddlhcpplkpbaaW.PrintMore
attribute [local go_sem] max2_int min2_int max_two min_two max_three min_three max_four min_four   -- for this text's walks alone
set_option linter.unusedVariables false
set_option linter.unusedSimpArgs false
def waybilllaw09_MessageBack.l0 : Nat → List (S25) → Int → Option (Bool)
  | 0, _, _ => none
  | k + 1, x0, x3 => if x3 < (x0.length : Int) then (if 0 ≤ x3 then ((message_Encode.f k ((rd_T25 x0 x3).f0) ((rd_T25 x0 x3).f1) ((rd_T25 x0 x3).f2) ((rd_T25 x0 x3).f3) ((rd_T25 x0 x3).f4) ((rd_T25 x0 x3).f5) ((rd_T25 x0 x3).f6) ((rd_T25 x0 x3).f7) ((rd_T25 x0 x3).f8) ((rd_T25 x0 x3).f9) ((rd_T25 x0 x3).f10) ((rd_T25 x0 x3).f11)).bind fun bt352 => ((waybilllaw09_num.f bt352.2).bind fun t356 => (if t356 = 0 then ((message_Decode.f k bt352.1).bind fun bt357 => ((waybilllaw09_num.f bt357.2.2.2.2.2.2.2.2.2.2.2.2).bind fun t373 => (if t373 = 0 then ((waybillplain_SameMsg.f bt357.1 bt357.2.1 bt357.2.2.1 bt357.2.2.2.1 bt357.2.2.2.2.1 bt357.2.2.2.2.2.1 bt357.2.2.2.2.2.2.1 bt357.2.2.2.2.2.2.2.1 bt357.2.2.2.2.2.2.2.2.1 bt357.2.2.2.2.2.2.2.2.2.1 bt357.2.2.2.2.2.2.2.2.2.2.1 bt357.2.2.2.2.2.2.2.2.2.2.2.1 ((rd_T25 x0 x3).f0) ((rd_T25 x0 x3).f1) ((rd_T25 x0 x3).f2) ((rd_T25 x0 x3).f3) ((rd_T25 x0 x3).f4) ((rd_T25 x0 x3).f5) ((rd_T25 x0 x3).f6) ((rd_T25 x0 x3).f7) ((rd_T25 x0 x3).f8) ((rd_T25 x0 x3).f9) ((rd_T25 x0 x3).f10) ((rd_T25 x0 x3).f11)).bind fun t375 => (if t375 = true then (waybilllaw09_MessageBack.l0 k x0 (wrap64 (x3 + 1))) else (some false))) else (some false)))) else (some ((bt352.1.length : Int) == 0))))) else (none)) else ((message_Frames.f k x0).bind fun bt376 => ((message_Read.f k bt376.1).bind fun bt380 => ((waybilllaw09_num.f bt376.2).bind fun t384 => ((waybilllaw09_num.f bt380.2).bind fun t385 => (if (wrap64 (t384 + t385)) = 0 then ((waybillplain_SameMsgs.f k bt380.1 x0).bind fun t386 => (some t386)) else (some false))))))
def waybilllaw09_MessageBack.f (k : Nat) (l0 : List (S25)) : Option (Bool) := (waybilllaw09_alive.f k).bind fun t350 => (if t350 = true then (waybilllaw09_MessageBack.l0 k l0 0) else (some false))
def waybilllaw09_MessageBack.T10 : Bool × List (List Nat × List Nat) := (true, [([], []), ([0], [0]), ([1], [1]), ([2, 1], [2]), ([3], [3]), ([3], [3]), ([3], [3]), ([5, 6, 3], [3, 5, 6]), ([7, 3], [3, 7]), ([4, 8, 3, 3], [3, 4, 8]), ([9, 3], [3, 9]), ([3, 10], [3, 10])])
def waybilllaw09_MessageBack.B10 : List Nat := [0, 1, 3, 7, 15, 15, 15, 111, 239, 511, 1023, 2047]
theorem waybilllaw09_MessageBack.tab10 : rtab .any (opsOf Try.f6 10) = waybilllaw09_MessageBack.T10 := by kernel_rfl
theorem waybilllaw09_MessageBack.bits10 : waitsOk waybilllaw09_MessageBack.T10.2 waybilllaw09_MessageBack.B10 = true := by kernel_rfl
set_option maxHeartbeats 8000000 in
set_option maxRecDepth 100000 in
theorem waybilllaw09_MessageBack.calls (k : Nat) (A0 : Option Addr) (c0 : Nat) (l0 : List (S25)) (r : Bool) (w : World) (hr0 : Kd.C k25 w A0 l0.length l0) (hc0 : l0.length ≤ c0) (h : waybilllaw09_MessageBack.f k l0 = some r)  (hrt : r = true) :
    Calls Try.prog 6 #[.slice A0 l0.length c0] w fun e w' => e = .returned (.bool r) ∧ Below w.heap.size w w' := by
  have hu25 := Try.underlying25
  have HR0 := Aside0.mk hr0
  have HC0 := Aside0.mk hc0
  clear hr0 hc0
  have HB := Aside0.mk (Below.refl w.heap.size w)
  have H : ((waybilllaw09_alive.f k).bind fun t350 => (if t350 = true then (waybilllaw09_MessageBack.l0 k l0 0) else (some false))) = some r := h
  clear h
  replace H := Option.bind_eq_some_iff.mp H
  obtain ⟨t350, A20, H⟩ := H
  replace H : (if t350 = true then (waybilllaw09_MessageBack.l0 k l0 0) else (some false)) = some r := H
  have A2 := Aside0.mk A20
  clear A20
  by_cases c3 : t350 = true
  · subst c3
    have H1 : (waybilllaw09_MessageBack.l0 k l0 0) = some r := by rw [if_pos rfl] at H; exact H
    clear H
    have H := H1
    clear H1
    have H' := Aside0.mk H
    clear H
    go_enter Try.func6, Try.ntmps6
    go_wp2_with (first | ((with_reducible refine gate_callee (f := 9) rfl ?_); refine goesL_ (some 12) rfl rfl Try.func9 (by kernel_rfl) rfl #[] rfl (by (try simp only [List.map_toArray, List.map_cons, List.map_nil]); first | done | rfl | (simp only [List.length_drop, List.length_take]; rfl)) ?_; (with_reducible refine (waybilllaw09_alive.calls k  true _ A2.out).mono ?_); rintro e w4 ⟨rfl, hb⟩; refine ⟨_, rfl, ?_⟩; have n0_ := Aside0.mk (below_step (by repeat (first | (with_reducible first | exact HB.out | apply below_alloc | apply pw_below_drewN | apply below_drew1) | exact HB.out)) hb); clear HB; have HB := n0_; clear n0_; (try clear hb); (try clear hb2); (try clear hk); (try clear hi)))
    go_loopg [3] k (fun kq v3 w' => ∃ (x3_1 : Int), v3 = .int .i64 x3_1 ∧ Aside0 (waybilllaw09_MessageBack.l0 kq l0 x3_1 = some r) ∧ Aside0 (kq ≤ k) ∧ Aside0 (Below w.heap.size w w'))
    case atStart => exact ⟨(0), (by first | rfl | (simp; done) | (simp [*]; done)), H', ⟨Nat.le_refl _⟩, ⟨by repeat (first | (with_reducible first | exact HB.out | apply below_alloc | apply pw_below_drewN | apply below_drew1) | exact HB.out)⟩⟩
    case round =>
      clear H'
      try clear p2
      try clear c3
      obtain ⟨x3_1, rfl, HA, HK1, HB⟩ := hrel
      cases gk with
      | zero => exact absurd HA.out (by simp [waybilllaw09_MessageBack.l0])
      | succ k1 =>
        have H := HA.out
        clear HA
        simp only [waybilllaw09_MessageBack.l0] at H
        by_cases c5 : x3_1 < (l0.length : Int)
        · rw [if_pos c5] at H
          have c5b0 : decide (x3_1 < (l0.length : Int)) = true := decide_eq_true c5
          clear c5
          by_cases c6 : 0 ≤ x3_1
          · rw [if_pos c6] at H
            have c6b0 : decide (0 ≤ x3_1) = true := decide_eq_true c6
            clear c6
            replace H := Option.bind_eq_some_iff.mp H
            obtain ⟨⟨t352, t355⟩, A70, H⟩ := H
            replace H : ((waybilllaw09_num.f t355).bind fun t356 => (if t356 = 0 then ((message_Decode.f k1 t352).bind fun bt357 => ((waybilllaw09_num.f bt357.2.2.2.2.2.2.2.2.2.2.2.2).bind fun t373 => (if t373 = 0 then ((waybillplain_SameMsg.f bt357.1 bt357.2.1 bt357.2.2.1 bt357.2.2.2.1 bt357.2.2.2.2.1 bt357.2.2.2.2.2.1 bt357.2.2.2.2.2.2.1 bt357.2.2.2.2.2.2.2.1 bt357.2.2.2.2.2.2.2.2.1 bt357.2.2.2.2.2.2.2.2.2.1 bt357.2.2.2.2.2.2.2.2.2.2.1 bt357.2.2.2.2.2.2.2.2.2.2.2.1 ((rd_T25 l0 x3_1).f0) ((rd_T25 l0 x3_1).f1) ((rd_T25 l0 x3_1).f2) ((rd_T25 l0 x3_1).f3) ((rd_T25 l0 x3_1).f4) ((rd_T25 l0 x3_1).f5) ((rd_T25 l0 x3_1).f6) ((rd_T25 l0 x3_1).f7) ((rd_T25 l0 x3_1).f8) ((rd_T25 l0 x3_1).f9) ((rd_T25 l0 x3_1).f10) ((rd_T25 l0 x3_1).f11)).bind fun t375 => (if t375 = true then (waybilllaw09_MessageBack.l0 k1 l0 (wrap64 (x3_1 + 1))) else (some false))) else (some false)))) else (some ((t352.length : Int) == 0)))) = some r := H
            have A7 := Aside0.mk A70
            clear A70
            replace H := Option.bind_eq_some_iff.mp H
            obtain ⟨t356, A80, H⟩ := H
            replace H : (if t356 = 0 then ((message_Decode.f k1 t352).bind fun bt357 => ((waybilllaw09_num.f bt357.2.2.2.2.2.2.2.2.2.2.2.2).bind fun t373 => (if t373 = 0 then ((waybillplain_SameMsg.f bt357.1 bt357.2.1 bt357.2.2.1 bt357.2.2.2.1 bt357.2.2.2.2.1 bt357.2.2.2.2.2.1 bt357.2.2.2.2.2.2.1 bt357.2.2.2.2.2.2.2.1 bt357.2.2.2.2.2.2.2.2.1 bt357.2.2.2.2.2.2.2.2.2.1 bt357.2.2.2.2.2.2.2.2.2.2.1 bt357.2.2.2.2.2.2.2.2.2.2.2.1 ((rd_T25 l0 x3_1).f0) ((rd_T25 l0 x3_1).f1) ((rd_T25 l0 x3_1).f2) ((rd_T25 l0 x3_1).f3) ((rd_T25 l0 x3_1).f4) ((rd_T25 l0 x3_1).f5) ((rd_T25 l0 x3_1).f6) ((rd_T25 l0 x3_1).f7) ((rd_T25 l0 x3_1).f8) ((rd_T25 l0 x3_1).f9) ((rd_T25 l0 x3_1).f10) ((rd_T25 l0 x3_1).f11)).bind fun t375 => (if t375 = true then (waybilllaw09_MessageBack.l0 k1 l0 (wrap64 (x3_1 + 1))) else (some false))) else (some false)))) else (some ((t352.length : Int) == 0))) = some r := H
            have A8 := Aside0.mk A80
            clear A80
            by_cases c9 : t356 = 0
            · rw [if_pos c9] at H
              have c9b0 : (t356 == 0) = true := beq_iff_eq.mpr c9
              have c9b1 : (t356 != 0) = false := bne_eq_false_iff_eq.mpr c9
              clear c9
              replace H := Option.bind_eq_some_iff.mp H
              obtain ⟨⟨t357, t358, t359, t360, t361, t362, t363, t364, t365, t366, t367, t368, t371⟩, A100, H⟩ := H
              replace H : ((waybilllaw09_num.f t371).bind fun t373 => (if t373 = 0 then ((waybillplain_SameMsg.f t357 t358 t359 t360 t361 t362 t363 t364 t365 t366 t367 t368 ((rd_T25 l0 x3_1).f0) ((rd_T25 l0 x3_1).f1) ((rd_T25 l0 x3_1).f2) ((rd_T25 l0 x3_1).f3) ((rd_T25 l0 x3_1).f4) ((rd_T25 l0 x3_1).f5) ((rd_T25 l0 x3_1).f6) ((rd_T25 l0 x3_1).f7) ((rd_T25 l0 x3_1).f8) ((rd_T25 l0 x3_1).f9) ((rd_T25 l0 x3_1).f10) ((rd_T25 l0 x3_1).f11)).bind fun t375 => (if t375 = true then (waybilllaw09_MessageBack.l0 k1 l0 (wrap64 (x3_1 + 1))) else (some false))) else (some false))) = some r := H
              have A10 := Aside0.mk A100
              clear A100
              replace H := Option.bind_eq_some_iff.mp H
              obtain ⟨t373, A110, H⟩ := H
              replace H : (if t373 = 0 then ((waybillplain_SameMsg.f t357 t358 t359 t360 t361 t362 t363 t364 t365 t366 t367 t368 ((rd_T25 l0 x3_1).f0) ((rd_T25 l0 x3_1).f1) ((rd_T25 l0 x3_1).f2) ((rd_T25 l0 x3_1).f3) ((rd_T25 l0 x3_1).f4) ((rd_T25 l0 x3_1).f5) ((rd_T25 l0 x3_1).f6) ((rd_T25 l0 x3_1).f7) ((rd_T25 l0 x3_1).f8) ((rd_T25 l0 x3_1).f9) ((rd_T25 l0 x3_1).f10) ((rd_T25 l0 x3_1).f11)).bind fun t375 => (if t375 = true then (waybilllaw09_MessageBack.l0 k1 l0 (wrap64 (x3_1 + 1))) else (some false))) else (some false)) = some r := H
              have A11 := Aside0.mk A110
              clear A110
              by_cases c12 : t373 = 0
              · rw [if_pos c12] at H
                have c12b0 : (t373 == 0) = true := beq_iff_eq.mpr c12
                have c12b1 : (t373 != 0) = false := bne_eq_false_iff_eq.mpr c12
                clear c12
                replace H := Option.bind_eq_some_iff.mp H
                obtain ⟨t375, A130, H⟩ := H
                replace H : (if t375 = true then (waybilllaw09_MessageBack.l0 k1 l0 (wrap64 (x3_1 + 1))) else (some false)) = some r := H
                have A13 := Aside0.mk A130
                clear A130
                by_cases c14 : t375 = true
                · subst c14
                  have H1 : (waybilllaw09_MessageBack.l0 k1 l0 (wrap64 (x3_1 + 1))) = some r := by rw [if_pos rfl] at H; exact H
                  clear H
                  have H := H1
                  clear H1
                  have H' := Aside0.mk H
                  clear H
                  have p351 : 0 ≤ (x3_1 : Int) := of_decide_eq_true (by first | (with_reducible assumption) | assumption)
                  have q351 : x3_1 < (l0.length : Int) := of_decide_eq_true (by first | (with_reducible assumption) | assumption)
                  obtain ⟨ad351, A351_11, c351_11, e351, hx351_0, hx351_1, hx351_2, hx351_3, hx351_4, hx351_5, hx351_6, hx351_7, hx351_8, hx351_9, hx351_10, hx351_11, hl351_11, hi351_11⟩ := at_T25 HR0.out x3_1 p351 q351
                  cases e351
                  replace hx351_0 := (HB.out.cell (World.block_lt_of_cell? w _ hx351_0)).trans hx351_0
                  replace hx351_1 := (HB.out.cell (World.block_lt_of_cell? w _ hx351_1)).trans hx351_1
                  replace hx351_2 := (HB.out.cell (World.block_lt_of_cell? w _ hx351_2)).trans hx351_2
                  replace hx351_3 := (HB.out.cell (World.block_lt_of_cell? w _ hx351_3)).trans hx351_3
                  replace hx351_4 := (HB.out.cell (World.block_lt_of_cell? w _ hx351_4)).trans hx351_4
                  replace hx351_5 := (HB.out.cell (World.block_lt_of_cell? w _ hx351_5)).trans hx351_5
                  replace hx351_6 := (HB.out.cell (World.block_lt_of_cell? w _ hx351_6)).trans hx351_6
                  replace hx351_7 := (HB.out.cell (World.block_lt_of_cell? w _ hx351_7)).trans hx351_7
                  replace hx351_8 := (HB.out.cell (World.block_lt_of_cell? w _ hx351_8)).trans hx351_8
                  replace hx351_9 := (HB.out.cell (World.block_lt_of_cell? w _ hx351_9)).trans hx351_9
                  replace hx351_10 := (HB.out.cell (World.block_lt_of_cell? w _ hx351_10)).trans hx351_10
                  replace hx351_11 := (HB.out.cell (World.block_lt_of_cell? w _ hx351_11)).trans hx351_11
                  have HR351_11 := Aside0.mk hi351_11
                  have HC351_11 := Aside0.mk hl351_11
                  clear hi351_11 hl351_11
                  replace p351 := eq_true p351
                  replace q351 := eq_true q351
                  try go_wp2_with (first | ((with_reducible refine gate_callee (f := 13) rfl ?_); refine goesL_ (some 25) rfl rfl Try.func13 (by kernel_rfl) rfl #[.agg #[.int .i64 ((rd_T25 l0 x3_1).f0), .int .i64 ((rd_T25 l0 x3_1).f1), .int .i64 ((rd_T25 l0 x3_1).f2), .int .i64 ((rd_T25 l0 x3_1).f3), .int .i64 ((rd_T25 l0 x3_1).f4), .int .i64 ((rd_T25 l0 x3_1).f5), .int .i64 ((rd_T25 l0 x3_1).f6), .int .i64 ((rd_T25 l0 x3_1).f7), .int .i64 ((rd_T25 l0 x3_1).f8), .int .i64 ((rd_T25 l0 x3_1).f9), .int .i64 ((rd_T25 l0 x3_1).f10), .slice A351_11 ((rd_T25 l0 x3_1).f11).length c351_11]] rfl (by (try simp only [List.map_toArray, List.map_cons, List.map_nil]); first | done | rfl | (simp only [List.length_drop, List.length_take]; rfl)) ?_; (with_reducible refine (message_Encode.calls k1 ((rd_T25 l0 x3_1).f0) ((rd_T25 l0 x3_1).f1) ((rd_T25 l0 x3_1).f2) ((rd_T25 l0 x3_1).f3) ((rd_T25 l0 x3_1).f4) ((rd_T25 l0 x3_1).f5) ((rd_T25 l0 x3_1).f6) ((rd_T25 l0 x3_1).f7) ((rd_T25 l0 x3_1).f8) ((rd_T25 l0 x3_1).f9) ((rd_T25 l0 x3_1).f10) _ _ ((rd_T25 l0 x3_1).f11) t352 t355 _ ?side1 ?side2 A7.out).mono ?_); (case side1 => repeat (first | exact (Kd.C_below HR351_11.out HB.out) | (with_reducible refine Kd.C_alloc ?_ _) | (with_reducible refine Kd.C_drewN ?_ _) | (with_reducible refine Kd.C_drew ?_))); (case side2 => exact HC351_11.out); rintro e w15 ⟨v353, rfl, ho0, hb⟩; refine ⟨_, rfl, ?_⟩; have n0_ := Aside0.mk (Kd.R_lower ho0 (below_size (by repeat (first | (with_reducible first | exact HB.out | apply below_alloc | apply pw_below_drewN | apply below_drew1) | exact HB.out)))); have n1_ := Aside0.mk (below_step (by repeat (first | (with_reducible first | exact HB.out | apply below_alloc | apply pw_below_drewN | apply below_drew1) | exact HB.out)) hb); clear HB; have HO354 := n0_; have HB := n1_; clear n0_ n1_; (try clear hb); (try clear hb2); (try clear hk); (try clear hi); (try clear ho0)) | ((with_reducible refine gate_callee (f := 11) rfl ?_); refine goesL_ (some 29) rfl rfl Try.func11 (by kernel_rfl) rfl #[.int .i64 t355] rfl (by (try simp only [List.map_toArray, List.map_cons, List.map_nil]); first | done | rfl | (simp only [List.length_drop, List.length_take]; rfl)) ?_; (with_reducible refine (waybilllaw09_num.calls t355 t356 _ A8.out).mono ?_); rintro e w' ⟨rfl, ⟨nd, rfl⟩⟩; refine ⟨_, rfl, ?_⟩; (try (rw [drewN_self w15]; generalize hq_ : World.drewN w15 _ = w15; have n0_ : Aside0 (Kd.R (Kd.int .u8) 5 w15 w.heap.size (fun _ => True) v353 t352) := ⟨by rw [← hq_]; exact (by (with_reducible repeat (first | apply Kd.R_alloc | apply Kd.R_drewN | apply Kd.R_drew)); exact HO354.out)⟩; have n1_ : Aside0 (Below w.heap.size w w15) := ⟨by rw [← hq_]; exact (by repeat (first | (with_reducible first | exact HB.out | apply below_alloc | apply pw_below_drewN | apply below_drew1) | exact HB.out))⟩; clear HO354 HB hq_; have HO354 := n0_; have HB := n1_; clear n0_ n1_)); obtain ⟨Ao16, co16, eo16⟩ := Kd.R_slice HO354.out; subst eo16) | ((with_reducible refine gate_callee (f := 10) rfl ?_); refine goesL_ (some 36) rfl rfl Try.func10 (by kernel_rfl) rfl #[.slice Ao16 t352.length co16] rfl (by (try simp only [List.map_toArray, List.map_cons, List.map_nil]); first | done | rfl | (simp only [List.length_drop, List.length_take]; rfl)) ?_; (with_reducible refine (message_Decode.calls k1 _ _ t352 t357 t358 t359 t360 t361 t362 t363 t364 t365 t366 t367 t368 t371 _ ?side1 ?side2 A10.out).mono ?_); (case side1 => repeat (first | exact (Kd.R_reads' HO354.out).2.2 | (with_reducible refine Kd.C_alloc ?_ _) | (with_reducible refine Kd.C_drewN ?_ _) | (with_reducible refine Kd.C_drew ?_))); (case side2 => exact (Kd.R_reads' HO354.out).2.1); rintro e w17 ⟨v369, rfl, ho0, hb⟩; refine ⟨_, rfl, ?_⟩; have n0_ := Aside0.mk (Kd.R_elder' (by (with_reducible repeat (first | apply Kd.R_alloc | apply Kd.R_drewN | apply Kd.R_drew)); exact HO354.out) (Kd.R_base ho0) hb); have n1_ := Aside0.mk (Kd.R_lower (Kd.R_new' ho0 (Kd.R_lt (by (with_reducible repeat (first | apply Kd.R_alloc | apply Kd.R_drewN | apply Kd.R_drew)); exact HO354.out))) (below_size (by repeat (first | (with_reducible first | exact HB.out | apply below_alloc | apply pw_below_drewN | apply below_drew1) | exact HB.out)))); have n2_ := Aside0.mk (below_step (by repeat (first | (with_reducible first | exact HB.out | apply below_alloc | apply pw_below_drewN | apply below_drew1) | exact HB.out)) hb); clear HO354; clear HB; have HO354 := n0_; have HO370 := n1_; have HB := n2_; clear n0_ n1_ n2_; (try clear hb); (try clear hb2); (try clear hk); (try clear hi); (try clear ho0)) | ((with_reducible refine gate_dst (N := 6) rfl ?_); refine box_event ?hg (N := 6) ?hd (cs := #[.int .i64 0, .int .i64 0, .int .i64 0, .int .i64 0, .int .i64 0, .int .i64 0, .int .i64 0, .int .i64 0, .int .i64 0, .int .i64 0, .int .i64 0, .slice none 0 0]) (t := 25) ?hr ?_; (case hd => rfl); (case hg => rfl); (case hr => first | (go_simp; done) | (go_simp; rfl)); intro gb372 hg w18 hbox hb; have n0_ := Aside0.mk (Kd.R_below (by (with_reducible repeat (first | apply Kd.R_alloc | apply Kd.R_drewN | apply Kd.R_drew)); exact HO354.out) hb); have n1_ := Aside0.mk (Kd.R_below (by (with_reducible repeat (first | apply Kd.R_alloc | apply Kd.R_drewN | apply Kd.R_drew)); exact HO370.out) hb); have n2_ := Aside0.mk (below_step (by repeat (first | (with_reducible first | exact HB.out | apply below_alloc | apply pw_below_drewN | apply below_drew1) | exact HB.out)) hb); have n3_ := Aside0.mk (hbox); have n4_ := Aside0.mk ((by rw [hg]; exact (below_size (by repeat (first | (with_reducible first | exact HB.out | apply below_alloc | apply pw_below_drewN | apply below_drew1) | exact HB.out))) : w.heap.size ≤ gb372)); have n5_ := Aside0.mk ((by rw [hg]; exact (below_size (by repeat (first | (with_reducible first | exact HB.out | apply below_alloc | apply pw_below_drewN | apply below_drew1) | exact HB.out))) : w.heap.size ≤ gb372)); clear HO354; clear HO370; clear HB; have HO354 := n0_; have HO370 := n1_; have HB := n2_; have BK372 := n3_; have GW372 := n4_; have GE372 := n5_; clear n0_ n1_ n2_ n3_ n4_ n5_; clear hb hbox hg; have hcz19_0 : w18.cell? ⟨gb372, 0, none⟩ = some (.int .i64 0) := (blk_cell BK372.out 0).trans rfl; have hcz19_1 : w18.cell? ⟨gb372, 1, none⟩ = some (.int .i64 0) := (blk_cell BK372.out 1).trans rfl; have hcz19_2 : w18.cell? ⟨gb372, 2, none⟩ = some (.int .i64 0) := (blk_cell BK372.out 2).trans rfl; have hcz19_3 : w18.cell? ⟨gb372, 3, none⟩ = some (.int .i64 0) := (blk_cell BK372.out 3).trans rfl; have hcz19_4 : w18.cell? ⟨gb372, 4, none⟩ = some (.int .i64 0) := (blk_cell BK372.out 4).trans rfl; have hcz19_5 : w18.cell? ⟨gb372, 5, none⟩ = some (.int .i64 0) := (blk_cell BK372.out 5).trans rfl; have hcz19_6 : w18.cell? ⟨gb372, 6, none⟩ = some (.int .i64 0) := (blk_cell BK372.out 6).trans rfl; have hcz19_7 : w18.cell? ⟨gb372, 7, none⟩ = some (.int .i64 0) := (blk_cell BK372.out 7).trans rfl; have hcz19_8 : w18.cell? ⟨gb372, 8, none⟩ = some (.int .i64 0) := (blk_cell BK372.out 8).trans rfl; have hcz19_9 : w18.cell? ⟨gb372, 9, none⟩ = some (.int .i64 0) := (blk_cell BK372.out 9).trans rfl; have hcz19_10 : w18.cell? ⟨gb372, 10, none⟩ = some (.int .i64 0) := (blk_cell BK372.out 10).trans rfl; have hcz19_11 : w18.cell? ⟨gb372, 11, none⟩ = some (.slice none 0 0) := (blk_cell BK372.out 11).trans rfl; have hfz19_0 := blk_frozen BK372.out 0; have hfz19_1 := blk_frozen BK372.out 1; have hfz19_2 := blk_frozen BK372.out 2; have hfz19_3 := blk_frozen BK372.out 3; have hfz19_4 := blk_frozen BK372.out 4; have hfz19_5 := blk_frozen BK372.out 5; have hfz19_6 := blk_frozen BK372.out 6; have hfz19_7 := blk_frozen BK372.out 7; have hfz19_8 := blk_frozen BK372.out 8; have hfz19_9 := blk_frozen BK372.out 9; have hfz19_10 := blk_frozen BK372.out 10; have hfz19_11 := blk_frozen BK372.out 11; obtain ⟨Ao20, co20, eo20⟩ := Kd.R_slice HO370.out; subst eo20))
                  have n0_ : Aside0 (Kd.R (Kd.int .u8) 5 ((((((((((((w18.setCell ⟨gb372, 0, none⟩ (.int .i64 t357)).setCell ⟨gb372, 1, none⟩ (.int .i64 t358)).setCell ⟨gb372, 2, none⟩ (.int .i64 t359)).setCell ⟨gb372, 3, none⟩ (.int .i64 t360)).setCell ⟨gb372, 4, none⟩ (.int .i64 t361)).setCell ⟨gb372, 5, none⟩ (.int .i64 t362)).setCell ⟨gb372, 6, none⟩ (.int .i64 t363)).setCell ⟨gb372, 7, none⟩ (.int .i64 t364)).setCell ⟨gb372, 8, none⟩ (.int .i64 t365)).setCell ⟨gb372, 9, none⟩ (.int .i64 t366)).setCell ⟨gb372, 10, none⟩ (.int .i64 t367)).setCell ⟨gb372, 11, none⟩ (.slice Ao20 t368.length co20)) w.heap.size (fun k_ => some k_ ≠ (.slice Ao20 t368.length co20 : Value).ownBlock) (.slice Ao16 t352.length co16) t352) := ⟨by (with_reducible repeat (first | apply Kd.R_alloc | apply Kd.R_drewN | apply Kd.R_drew)); exact Kd.R_mono (Kd.R_far (p := ⟨gb372, 11, none⟩) (Kd.R_far (p := ⟨gb372, 10, none⟩) (Kd.R_far (p := ⟨gb372, 9, none⟩) (Kd.R_far (p := ⟨gb372, 8, none⟩) (Kd.R_far (p := ⟨gb372, 7, none⟩) (Kd.R_far (p := ⟨gb372, 6, none⟩) (Kd.R_far (p := ⟨gb372, 5, none⟩) (Kd.R_far (p := ⟨gb372, 4, none⟩) (Kd.R_far (p := ⟨gb372, 3, none⟩) (Kd.R_far (p := ⟨gb372, 2, none⟩) (Kd.R_far (p := ⟨gb372, 1, none⟩) (Kd.R_far (p := ⟨gb372, 0, none⟩) (Kd.R_types HO354.out BK372.out (by decide)) (fun _ hk => hk.2) (.int .i64 t357)) (fun _ hk => hk.2) (.int .i64 t358)) (fun _ hk => hk.2) (.int .i64 t359)) (fun _ hk => hk.2) (.int .i64 t360)) (fun _ hk => hk.2) (.int .i64 t361)) (fun _ hk => hk.2) (.int .i64 t362)) (fun _ hk => hk.2) (.int .i64 t363)) (fun _ hk => hk.2) (.int .i64 t364)) (fun _ hk => hk.2) (.int .i64 t365)) (fun _ hk => hk.2) (.int .i64 t366)) (fun _ hk => hk.2) (.int .i64 t367)) (fun _ hk => hk.2) (.slice Ao20 t368.length co20)) (fun _ hk => hk.1.2)⟩
                  have n1_ : Aside0 (Kd.R (Kd.int .u8) 5 ((((((((((((w18.setCell ⟨gb372, 0, none⟩ (.int .i64 t357)).setCell ⟨gb372, 1, none⟩ (.int .i64 t358)).setCell ⟨gb372, 2, none⟩ (.int .i64 t359)).setCell ⟨gb372, 3, none⟩ (.int .i64 t360)).setCell ⟨gb372, 4, none⟩ (.int .i64 t361)).setCell ⟨gb372, 5, none⟩ (.int .i64 t362)).setCell ⟨gb372, 6, none⟩ (.int .i64 t363)).setCell ⟨gb372, 7, none⟩ (.int .i64 t364)).setCell ⟨gb372, 8, none⟩ (.int .i64 t365)).setCell ⟨gb372, 9, none⟩ (.int .i64 t366)).setCell ⟨gb372, 10, none⟩ (.int .i64 t367)).setCell ⟨gb372, 11, none⟩ (.slice Ao20 t368.length co20)) w.heap.size (fun k_ => some k_ ≠ (.slice Ao16 t352.length co16 : Value).ownBlock) (.slice Ao20 t368.length co20) t368) := ⟨by (with_reducible repeat (first | apply Kd.R_alloc | apply Kd.R_drewN | apply Kd.R_drew)); exact Kd.R_mono (Kd.R_far (p := ⟨gb372, 11, none⟩) (Kd.R_far (p := ⟨gb372, 10, none⟩) (Kd.R_far (p := ⟨gb372, 9, none⟩) (Kd.R_far (p := ⟨gb372, 8, none⟩) (Kd.R_far (p := ⟨gb372, 7, none⟩) (Kd.R_far (p := ⟨gb372, 6, none⟩) (Kd.R_far (p := ⟨gb372, 5, none⟩) (Kd.R_far (p := ⟨gb372, 4, none⟩) (Kd.R_far (p := ⟨gb372, 3, none⟩) (Kd.R_far (p := ⟨gb372, 2, none⟩) (Kd.R_far (p := ⟨gb372, 1, none⟩) (Kd.R_far (p := ⟨gb372, 0, none⟩) (Kd.R_types HO370.out BK372.out (by decide)) (fun _ hk => hk.2) (.int .i64 t357)) (fun _ hk => hk.2) (.int .i64 t358)) (fun _ hk => hk.2) (.int .i64 t359)) (fun _ hk => hk.2) (.int .i64 t360)) (fun _ hk => hk.2) (.int .i64 t361)) (fun _ hk => hk.2) (.int .i64 t362)) (fun _ hk => hk.2) (.int .i64 t363)) (fun _ hk => hk.2) (.int .i64 t364)) (fun _ hk => hk.2) (.int .i64 t365)) (fun _ hk => hk.2) (.int .i64 t366)) (fun _ hk => hk.2) (.int .i64 t367)) (fun _ hk => hk.2) (.slice Ao20 t368.length co20)) (fun _ hk => hk.1.2)⟩
                  have n2_ : Aside0 (((((((((((((w18.setCell ⟨gb372, 0, none⟩ (.int .i64 t357)).setCell ⟨gb372, 1, none⟩ (.int .i64 t358)).setCell ⟨gb372, 2, none⟩ (.int .i64 t359)).setCell ⟨gb372, 3, none⟩ (.int .i64 t360)).setCell ⟨gb372, 4, none⟩ (.int .i64 t361)).setCell ⟨gb372, 5, none⟩ (.int .i64 t362)).setCell ⟨gb372, 6, none⟩ (.int .i64 t363)).setCell ⟨gb372, 7, none⟩ (.int .i64 t364)).setCell ⟨gb372, 8, none⟩ (.int .i64 t365)).setCell ⟨gb372, 9, none⟩ (.int .i64 t366)).setCell ⟨gb372, 10, none⟩ (.int .i64 t367)).setCell ⟨gb372, 11, none⟩ (.slice Ao20 t368.length co20)).heap[gb372]? = some (.cells #[.int .i64 t357, .int .i64 t358, .int .i64 t359, .int .i64 t360, .int .i64 t361, .int .i64 t362, .int .i64 t363, .int .i64 t364, .int .i64 t365, .int .i64 t366, .int .i64 t367, .slice Ao20 t368.length co20] 25 (0, 0))) := ⟨by (with_reducible repeat (first | refine blk_drewN ?_ _ | refine blk_drew ?_ | refine blk_alloc ?_ _)); refine blk_put (cs := #[.int .i64 t357, .int .i64 t358, .int .i64 t359, .int .i64 t360, .int .i64 t361, .int .i64 t362, .int .i64 t363, .int .i64 t364, .int .i64 t365, .int .i64 t366, .int .i64 t367, .slice none 0 0]) ?_ 11 _ rfl; (with_reducible repeat (first | refine blk_drewN ?_ _ | refine blk_drew ?_ | refine blk_alloc ?_ _)); refine blk_put (cs := #[.int .i64 t357, .int .i64 t358, .int .i64 t359, .int .i64 t360, .int .i64 t361, .int .i64 t362, .int .i64 t363, .int .i64 t364, .int .i64 t365, .int .i64 t366, .int .i64 0, .slice none 0 0]) ?_ 10 _ rfl; (with_reducible repeat (first | refine blk_drewN ?_ _ | refine blk_drew ?_ | refine blk_alloc ?_ _)); refine blk_put (cs := #[.int .i64 t357, .int .i64 t358, .int .i64 t359, .int .i64 t360, .int .i64 t361, .int .i64 t362, .int .i64 t363, .int .i64 t364, .int .i64 t365, .int .i64 0, .int .i64 0, .slice none 0 0]) ?_ 9 _ rfl; (with_reducible repeat (first | refine blk_drewN ?_ _ | refine blk_drew ?_ | refine blk_alloc ?_ _)); refine blk_put (cs := #[.int .i64 t357, .int .i64 t358, .int .i64 t359, .int .i64 t360, .int .i64 t361, .int .i64 t362, .int .i64 t363, .int .i64 t364, .int .i64 0, .int .i64 0, .int .i64 0, .slice none 0 0]) ?_ 8 _ rfl; (with_reducible repeat (first | refine blk_drewN ?_ _ | refine blk_drew ?_ | refine blk_alloc ?_ _)); refine blk_put (cs := #[.int .i64 t357, .int .i64 t358, .int .i64 t359, .int .i64 t360, .int .i64 t361, .int .i64 t362, .int .i64 t363, .int .i64 0, .int .i64 0, .int .i64 0, .int .i64 0, .slice none 0 0]) ?_ 7 _ rfl; (with_reducible repeat (first | refine blk_drewN ?_ _ | refine blk_drew ?_ | refine blk_alloc ?_ _)); refine blk_put (cs := #[.int .i64 t357, .int .i64 t358, .int .i64 t359, .int .i64 t360, .int .i64 t361, .int .i64 t362, .int .i64 0, .int .i64 0, .int .i64 0, .int .i64 0, .int .i64 0, .slice none 0 0]) ?_ 6 _ rfl; (with_reducible repeat (first | refine blk_drewN ?_ _ | refine blk_drew ?_ | refine blk_alloc ?_ _)); refine blk_put (cs := #[.int .i64 t357, .int .i64 t358, .int .i64 t359, .int .i64 t360, .int .i64 t361, .int .i64 0, .int .i64 0, .int .i64 0, .int .i64 0, .int .i64 0, .int .i64 0, .slice none 0 0]) ?_ 5 _ rfl; (with_reducible repeat (first | refine blk_drewN ?_ _ | refine blk_drew ?_ | refine blk_alloc ?_ _)); refine blk_put (cs := #[.int .i64 t357, .int .i64 t358, .int .i64 t359, .int .i64 t360, .int .i64 0, .int .i64 0, .int .i64 0, .int .i64 0, .int .i64 0, .int .i64 0, .int .i64 0, .slice none 0 0]) ?_ 4 _ rfl; (with_reducible repeat (first | refine blk_drewN ?_ _ | refine blk_drew ?_ | refine blk_alloc ?_ _)); refine blk_put (cs := #[.int .i64 t357, .int .i64 t358, .int .i64 t359, .int .i64 0, .int .i64 0, .int .i64 0, .int .i64 0, .int .i64 0, .int .i64 0, .int .i64 0, .int .i64 0, .slice none 0 0]) ?_ 3 _ rfl; (with_reducible repeat (first | refine blk_drewN ?_ _ | refine blk_drew ?_ | refine blk_alloc ?_ _)); refine blk_put (cs := #[.int .i64 t357, .int .i64 t358, .int .i64 0, .int .i64 0, .int .i64 0, .int .i64 0, .int .i64 0, .int .i64 0, .int .i64 0, .int .i64 0, .int .i64 0, .slice none 0 0]) ?_ 2 _ rfl; (with_reducible repeat (first | refine blk_drewN ?_ _ | refine blk_drew ?_ | refine blk_alloc ?_ _)); refine blk_put (cs := #[.int .i64 t357, .int .i64 0, .int .i64 0, .int .i64 0, .int .i64 0, .int .i64 0, .int .i64 0, .int .i64 0, .int .i64 0, .int .i64 0, .int .i64 0, .slice none 0 0]) ?_ 1 _ rfl; (with_reducible repeat (first | refine blk_drewN ?_ _ | refine blk_drew ?_ | refine blk_alloc ?_ _)); refine blk_put (cs := #[.int .i64 0, .int .i64 0, .int .i64 0, .int .i64 0, .int .i64 0, .int .i64 0, .int .i64 0, .int .i64 0, .int .i64 0, .int .i64 0, .int .i64 0, .slice none 0 0]) ?_ 0 _ rfl; (with_reducible repeat (first | refine blk_drewN ?_ _ | refine blk_drew ?_ | refine blk_alloc ?_ _)); exact BK372.out⟩
                  have n3_ : Aside0 (Below w.heap.size w ((((((((((((w18.setCell ⟨gb372, 0, none⟩ (.int .i64 t357)).setCell ⟨gb372, 1, none⟩ (.int .i64 t358)).setCell ⟨gb372, 2, none⟩ (.int .i64 t359)).setCell ⟨gb372, 3, none⟩ (.int .i64 t360)).setCell ⟨gb372, 4, none⟩ (.int .i64 t361)).setCell ⟨gb372, 5, none⟩ (.int .i64 t362)).setCell ⟨gb372, 6, none⟩ (.int .i64 t363)).setCell ⟨gb372, 7, none⟩ (.int .i64 t364)).setCell ⟨gb372, 8, none⟩ (.int .i64 t365)).setCell ⟨gb372, 9, none⟩ (.int .i64 t366)).setCell ⟨gb372, 10, none⟩ (.int .i64 t367)).setCell ⟨gb372, 11, none⟩ (.slice Ao20 t368.length co20))) := ⟨by repeat (first | (with_reducible first | exact HB.out | apply below_alloc | apply pw_below_drewN | apply below_drew1 | refine below_set ?_ GE372.out) | exact HB.out)⟩
                  (try clear HO354)
                  (try clear HO370)
                  (try clear BK372)
                  (try clear HB)
                  generalize ((((((((((((w18.setCell ⟨gb372, 0, none⟩ (.int .i64 t357)).setCell ⟨gb372, 1, none⟩ (.int .i64 t358)).setCell ⟨gb372, 2, none⟩ (.int .i64 t359)).setCell ⟨gb372, 3, none⟩ (.int .i64 t360)).setCell ⟨gb372, 4, none⟩ (.int .i64 t361)).setCell ⟨gb372, 5, none⟩ (.int .i64 t362)).setCell ⟨gb372, 6, none⟩ (.int .i64 t363)).setCell ⟨gb372, 7, none⟩ (.int .i64 t364)).setCell ⟨gb372, 8, none⟩ (.int .i64 t365)).setCell ⟨gb372, 9, none⟩ (.int .i64 t366)).setCell ⟨gb372, 10, none⟩ (.int .i64 t367)).setCell ⟨gb372, 11, none⟩ (.slice Ao20 t368.length co20)) = w21 at n0_ n1_ n2_ n3_ ⊢
                  have HO354 := n0_
                  have HO370 := n1_
                  have BK372 := n2_
                  have HB := n3_
                  clear n0_ n1_ n2_ n3_
                  have n0_ := Aside0.mk (Kd.R_drew HO354.out)
                  have n1_ := Aside0.mk (Kd.R_drew HO370.out)
                  have n2_ := Aside0.mk (blk_drew BK372.out)
                  have n3_ := Aside0.mk (below_drew1 HB.out)
                  clear HO354
                  clear HO370
                  clear BK372
                  clear HB
                  have HO354 := n0_
                  have HO370 := n1_
                  have BK372 := n2_
                  have HB := n3_
                  clear n0_ n1_ n2_ n3_
                  have p374 : 0 ≤ (x3_1 : Int) := of_decide_eq_true (by first | (with_reducible assumption) | assumption)
                  have q374 : x3_1 < (l0.length : Int) := of_decide_eq_true (by first | (with_reducible assumption) | assumption)
                  obtain ⟨ad374, A374_11, c374_11, e374, hx374_0, hx374_1, hx374_2, hx374_3, hx374_4, hx374_5, hx374_6, hx374_7, hx374_8, hx374_9, hx374_10, hx374_11, hl374_11, hi374_11⟩ := at_T25 HR0.out x3_1 p374 q374
                  have hw374_11 := hx374_11
                  have hw374_10 := hx374_10
                  have hw374_9 := hx374_9
                  have hw374_8 := hx374_8
                  have hw374_7 := hx374_7
                  have hw374_6 := hx374_6
                  have hw374_5 := hx374_5
                  have hw374_4 := hx374_4
                  have hw374_3 := hx374_3
                  have hw374_2 := hx374_2
                  have hw374_1 := hx374_1
                  have hw374_0 := hx374_0
                  obtain rfl : ad351 = ad374 := (by injection e374)
                  replace hx374_0 := (HB.out.cell (World.block_lt_of_cell? w _ hx374_0)).trans hx374_0
                  replace hx374_1 := (HB.out.cell (World.block_lt_of_cell? w _ hx374_1)).trans hx374_1
                  replace hx374_2 := (HB.out.cell (World.block_lt_of_cell? w _ hx374_2)).trans hx374_2
                  replace hx374_3 := (HB.out.cell (World.block_lt_of_cell? w _ hx374_3)).trans hx374_3
                  replace hx374_4 := (HB.out.cell (World.block_lt_of_cell? w _ hx374_4)).trans hx374_4
                  replace hx374_5 := (HB.out.cell (World.block_lt_of_cell? w _ hx374_5)).trans hx374_5
                  replace hx374_6 := (HB.out.cell (World.block_lt_of_cell? w _ hx374_6)).trans hx374_6
                  replace hx374_7 := (HB.out.cell (World.block_lt_of_cell? w _ hx374_7)).trans hx374_7
                  replace hx374_8 := (HB.out.cell (World.block_lt_of_cell? w _ hx374_8)).trans hx374_8
                  replace hx374_9 := (HB.out.cell (World.block_lt_of_cell? w _ hx374_9)).trans hx374_9
                  replace hx374_10 := (HB.out.cell (World.block_lt_of_cell? w _ hx374_10)).trans hx374_10
                  replace hx374_11 := (HB.out.cell (World.block_lt_of_cell? w _ hx374_11)).trans hx374_11
                  have HR374_11 := Aside0.mk hi374_11
                  have HC374_11 := Aside0.mk hl374_11
                  clear hi374_11 hl374_11
                  replace p374 := eq_true p374
                  replace q374 := eq_true q374
                  refine start_ (n := 12) (S := fun w' => w'.cell? ⟨gb372, 0, none⟩ = some (.int .i64 t357) ∧ w'.cell? ⟨gb372, 1, none⟩ = some (.int .i64 t358) ∧ w'.cell? ⟨gb372, 2, none⟩ = some (.int .i64 t359) ∧ w'.cell? ⟨gb372, 3, none⟩ = some (.int .i64 t360) ∧ w'.cell? ⟨gb372, 4, none⟩ = some (.int .i64 t361) ∧ w'.cell? ⟨gb372, 5, none⟩ = some (.int .i64 t362) ∧ w'.cell? ⟨gb372, 6, none⟩ = some (.int .i64 t363) ∧ w'.cell? ⟨gb372, 7, none⟩ = some (.int .i64 t364) ∧ w'.cell? ⟨gb372, 8, none⟩ = some (.int .i64 t365) ∧ w'.cell? ⟨gb372, 9, none⟩ = some (.int .i64 t366) ∧ w'.cell? ⟨gb372, 10, none⟩ = some (.int .i64 t367) ∧ w'.cell? ⟨gb372, 11, none⟩ = some (.slice Ao20 t368.length co20) ∧ w'.cell? (ad351.add ((x3_1).toNat * 12)) = some (.int .i64 ((rd_T25 l0 x3_1).f0)) ∧ w'.cell? ⟨(ad351.add ((x3_1).toNat * 12)).block, (ad351.add ((x3_1).toNat * 12)).off + 1, none⟩ = some (.int .i64 ((rd_T25 l0 x3_1).f1)) ∧ w'.cell? ⟨(ad351.add ((x3_1).toNat * 12)).block, (ad351.add ((x3_1).toNat * 12)).off + 2, none⟩ = some (.int .i64 ((rd_T25 l0 x3_1).f2)) ∧ w'.cell? ⟨(ad351.add ((x3_1).toNat * 12)).block, (ad351.add ((x3_1).toNat * 12)).off + 3, none⟩ = some (.int .i64 ((rd_T25 l0 x3_1).f3)) ∧ w'.cell? ⟨(ad351.add ((x3_1).toNat * 12)).block, (ad351.add ((x3_1).toNat * 12)).off + 4, none⟩ = some (.int .i64 ((rd_T25 l0 x3_1).f4)) ∧ w'.cell? ⟨(ad351.add ((x3_1).toNat * 12)).block, (ad351.add ((x3_1).toNat * 12)).off + 5, none⟩ = some (.int .i64 ((rd_T25 l0 x3_1).f5)) ∧ w'.cell? ⟨(ad351.add ((x3_1).toNat * 12)).block, (ad351.add ((x3_1).toNat * 12)).off + 6, none⟩ = some (.int .i64 ((rd_T25 l0 x3_1).f6)) ∧ w'.cell? ⟨(ad351.add ((x3_1).toNat * 12)).block, (ad351.add ((x3_1).toNat * 12)).off + 7, none⟩ = some (.int .i64 ((rd_T25 l0 x3_1).f7)) ∧ w'.cell? ⟨(ad351.add ((x3_1).toNat * 12)).block, (ad351.add ((x3_1).toNat * 12)).off + 8, none⟩ = some (.int .i64 ((rd_T25 l0 x3_1).f8)) ∧ w'.cell? ⟨(ad351.add ((x3_1).toNat * 12)).block, (ad351.add ((x3_1).toNat * 12)).off + 9, none⟩ = some (.int .i64 ((rd_T25 l0 x3_1).f9)) ∧ w'.cell? ⟨(ad351.add ((x3_1).toNat * 12)).block, (ad351.add ((x3_1).toNat * 12)).off + 10, none⟩ = some (.int .i64 ((rd_T25 l0 x3_1).f10)) ∧ w'.cell? ⟨(ad351.add ((x3_1).toNat * 12)).block, (ad351.add ((x3_1).toNat * 12)).off + 11, none⟩ = some (.slice A374_11 ((rd_T25 l0 x3_1).f11).length c374_11)) (ds := []) #[false, false, false, false, false, false, false, false, false, false, false, false] (by kernel_rfl) rfl rfl ⟨(blk_cell BK372.out 0).trans rfl, (blk_cell BK372.out 1).trans rfl, (blk_cell BK372.out 2).trans rfl, (blk_cell BK372.out 3).trans rfl, (blk_cell BK372.out 4).trans rfl, (blk_cell BK372.out 5).trans rfl, (blk_cell BK372.out 6).trans rfl, (blk_cell BK372.out 7).trans rfl, (blk_cell BK372.out 8).trans rfl, (blk_cell BK372.out 9).trans rfl, (blk_cell BK372.out 10).trans rfl, (blk_cell BK372.out 11).trans rfl, ((HB.out.cell (World.block_lt_of_cell? w _ hw374_0)).trans hw374_0), ((HB.out.cell (World.block_lt_of_cell? w _ hw374_1)).trans hw374_1), ((HB.out.cell (World.block_lt_of_cell? w _ hw374_2)).trans hw374_2), ((HB.out.cell (World.block_lt_of_cell? w _ hw374_3)).trans hw374_3), ((HB.out.cell (World.block_lt_of_cell? w _ hw374_4)).trans hw374_4), ((HB.out.cell (World.block_lt_of_cell? w _ hw374_5)).trans hw374_5), ((HB.out.cell (World.block_lt_of_cell? w _ hw374_6)).trans hw374_6), ((HB.out.cell (World.block_lt_of_cell? w _ hw374_7)).trans hw374_7), ((HB.out.cell (World.block_lt_of_cell? w _ hw374_8)).trans hw374_8), ((HB.out.cell (World.block_lt_of_cell? w _ hw374_9)).trans hw374_9), ((HB.out.cell (World.block_lt_of_cell? w _ hw374_10)).trans hw374_10), ((HB.out.cell (World.block_lt_of_cell? w _ hw374_11)).trans hw374_11)⟩ (fun hHeld => ?_); refine with_tabW waybilllaw09_MessageBack.tab10 waybilllaw09_MessageBack.bits10 (fun HT_ HW_ => ?_)
                  generalize w21.drew = w22 at HO354 HO370 BK372 HB HR374_11 hx374_0 hx374_1 hx374_10 hx374_11 hx374_2 hx374_3 hx374_4 hx374_5 hx374_6 hx374_7 hx374_8 hx374_9 hHeld ⊢
                  refine pure_ (i := 0) (N := some 39) (v := ?_) (a' := ?_) #[true, false, false, false, false, false, false, false, false, false, false, false] rfl rfl (any_of HT_.out (by kernel_rfl)) (fun _ _ _ h => h) (Or.inl ⟨by rfl, ?_⟩) ?_ ?_
                  rotate_left
                  · intro w'
                    go_simp
                    with_reducible rfl
                  rotate_left
                  · simp only [Act.put, List.setIfInBounds_toArray, List.set_cons_zero, List.set_cons_succ, i64_w, i32_w]
                    rfl
                  refine one_ (i := 1) (N := some 40) #[true, true, false, false, false, false, false, false, false, false, false, false] rfl rfl (one_of HT_.out (by kernel_rfl)) (by decide) (fun K hK => ?_)
                  refine goes_ Try.func11 (by kernel_rfl) rfl #[.int .i64 t371] (by rfl) rfl rfl (by (try simp only [List.map_toArray, List.map_cons, List.map_nil]); first | done | rfl | (simp only [List.length_drop, List.length_take]; rfl)) ?_
                  with_reducible refine (waybilllaw09_num.calls t371 t373 _ A11.out).mono ?_
                  rintro e w' ⟨rfl, ⟨nd, rfl⟩⟩
                  refine ⟨_, rfl, ?_⟩
                  refine hK.out _ _ ⟨(blk_cell BK372.out 0).trans rfl, (blk_cell BK372.out 1).trans rfl, (blk_cell BK372.out 2).trans rfl, (blk_cell BK372.out 3).trans rfl, (blk_cell BK372.out 4).trans rfl, (blk_cell BK372.out 5).trans rfl, (blk_cell BK372.out 6).trans rfl, (blk_cell BK372.out 7).trans rfl, (blk_cell BK372.out 8).trans rfl, (blk_cell BK372.out 9).trans rfl, (blk_cell BK372.out 10).trans rfl, (blk_cell BK372.out 11).trans rfl, ((HB.out.cell (World.block_lt_of_cell? w _ hw374_0)).trans hw374_0), ((HB.out.cell (World.block_lt_of_cell? w _ hw374_1)).trans hw374_1), ((HB.out.cell (World.block_lt_of_cell? w _ hw374_2)).trans hw374_2), ((HB.out.cell (World.block_lt_of_cell? w _ hw374_3)).trans hw374_3), ((HB.out.cell (World.block_lt_of_cell? w _ hw374_4)).trans hw374_4), ((HB.out.cell (World.block_lt_of_cell? w _ hw374_5)).trans hw374_5), ((HB.out.cell (World.block_lt_of_cell? w _ hw374_6)).trans hw374_6), ((HB.out.cell (World.block_lt_of_cell? w _ hw374_7)).trans hw374_7), ((HB.out.cell (World.block_lt_of_cell? w _ hw374_8)).trans hw374_8), ((HB.out.cell (World.block_lt_of_cell? w _ hw374_9)).trans hw374_9), ((HB.out.cell (World.block_lt_of_cell? w _ hw374_10)).trans hw374_10), ((HB.out.cell (World.block_lt_of_cell? w _ hw374_11)).trans hw374_11)⟩ (fun hHeld => ?_)
                  clear hK K
                  refine norm_ (a' := ?_) ?_ ?_
                  rotate_left
                  · show Act.put _ (some 40) _ = _
                    simp only [Act.put, List.setIfInBounds_toArray, List.set_cons_zero, List.set_cons_succ, i64_w, i32_w]
                    rfl
                  refine pure_ (i := 2) (N := some 41) (v := ?_) (a' := ?_) #[true, true, true, false, false, false, false, false, false, false, false, false] rfl rfl (any_of HT_.out (by kernel_rfl)) (fun _ _ _ h => h) (Or.inl ⟨by rfl, ?_⟩) ?_ ?_
                  rotate_left
                  · intro w'
                    go_simp
                    with_reducible rfl
                  rotate_left
                  · simp only [Act.put, List.setIfInBounds_toArray, List.set_cons_zero, List.set_cons_succ, i64_w, i32_w]
                    rfl
                  refine pure_ (i := 3) (N := some 42) (v := ?_) (a' := ?_) #[true, true, true, true, false, false, false, false, false, false, false, false] rfl rfl (any_of HT_.out (by kernel_rfl)) (fun _ _ _ h => h) (Or.inl ⟨by rfl, ?_⟩) ?_ ?_
                  rotate_left
                  · intro w'
                    go_simp
                    with_reducible rfl
                  rotate_left
                  · simp only [Act.put, List.setIfInBounds_toArray, List.set_cons_zero, List.set_cons_succ, i64_w, i32_w]
                    rfl
                  refine pure_ (i := 5) (N := some 44) (v := ?_) (a' := ?_) #[true, true, true, true, false, true, false, false, false, false, false, false] rfl rfl (any_of HT_.out (by kernel_rfl)) (fun _ _ _ h => h) (Or.inl ⟨by rfl, ?_⟩) ?_ ?_
                  rotate_left
                  · intro w'
                    go_simp
                    with_reducible rfl
                  rotate_left
                  · simp only [Act.put, List.setIfInBounds_toArray, List.set_cons_zero, List.set_cons_succ, i64_w, i32_w]
                    rfl
                  refine pure_ (i := 6) (N := some 45) (v := ?_) (a' := ?_) #[true, true, true, true, false, true, true, false, false, false, false, false] rfl rfl (any_of HT_.out (by kernel_rfl)) (fun _ _ _ h => h) (Or.inl ⟨by rfl, ?_⟩) ?_ ?_
                  rotate_left
                  · intro w'
                    go_simp
                    with_reducible rfl
                  rotate_left
                  · simp only [Act.put, List.setIfInBounds_toArray, List.set_cons_zero, List.set_cons_succ, i64_w, i32_w]
                    rfl
                  refine pure_ (i := 7) (N := some 46) (v := ?_) (a' := ?_) #[true, true, true, true, false, true, true, true, false, false, false, false] rfl rfl (any_of HT_.out (by kernel_rfl)) (fun _ _ _ h => h) (Or.inl ⟨by rfl, ?_⟩) ?_ ?_
                  rotate_left
                  · intro w'
                    go_simp
                    with_reducible rfl
                  rotate_left
                  · simp only [Act.put, List.setIfInBounds_toArray, List.set_cons_zero, List.set_cons_succ, i64_w, i32_w]
                    rfl
                  refine take_ (i := 4) (N := some 43) (v := ?_) (a' := ?_) #[true, true, true, true, true, true, true, true, false, false, false, false] rfl rfl (take_ofW HT_.out HW_.out (by kernel_rfl)) (fun _ _ _ h => h) (Or.inl ⟨by rfl, ?_⟩) hHeld ?_ ?_
                  rotate_left
                  · rintro w' ⟨s0, s1, s2, s3, s4, s5, s6, s7, s8, s9, s10, s11, s12, s13, s14, s15, s16, s17, s18, s19, s20, s21, s22, s23⟩
                    go_simp
                    with_reducible rfl
                  rotate_left
                  · simp only [Act.put, List.setIfInBounds_toArray, List.set_cons_zero, List.set_cons_succ, i64_w, i32_w]
                    rfl
                  refine take_ (i := 8) (N := some 47) (v := ?_) (a' := ?_) #[true, true, true, true, true, true, true, true, true, false, false, false] rfl rfl (take_ofW HT_.out HW_.out (by kernel_rfl)) (fun _ _ _ h => h) (Or.inl ⟨by rfl, ?_⟩) hHeld ?_ ?_
                  rotate_left
                  · rintro w' ⟨s0, s1, s2, s3, s4, s5, s6, s7, s8, s9, s10, s11, s12, s13, s14, s15, s16, s17, s18, s19, s20, s21, s22, s23⟩
                    go_simp
                    with_reducible rfl
                  rotate_left
                  · simp only [Act.put, List.setIfInBounds_toArray, List.set_cons_zero, List.set_cons_succ, i64_w, i32_w]
                    rfl
                  refine one_ (i := 9) (N := some 48) #[true, true, true, true, true, true, true, true, true, true, false, false] rfl rfl (one_of HT_.out (by kernel_rfl)) (by decide) (fun K hK => ?_)
                  refine goes_ Try.func12 (by kernel_rfl) rfl #[.agg #[.int .i64 t357, .int .i64 t358, .int .i64 t359, .int .i64 t360, .int .i64 t361, .int .i64 t362, .int .i64 t363, .int .i64 t364, .int .i64 t365, .int .i64 t366, .int .i64 t367, .slice Ao20 t368.length co20], .agg #[.int .i64 ((rd_T25 l0 x3_1).f0), .int .i64 ((rd_T25 l0 x3_1).f1), .int .i64 ((rd_T25 l0 x3_1).f2), .int .i64 ((rd_T25 l0 x3_1).f3), .int .i64 ((rd_T25 l0 x3_1).f4), .int .i64 ((rd_T25 l0 x3_1).f5), .int .i64 ((rd_T25 l0 x3_1).f6), .int .i64 ((rd_T25 l0 x3_1).f7), .int .i64 ((rd_T25 l0 x3_1).f8), .int .i64 ((rd_T25 l0 x3_1).f9), .int .i64 ((rd_T25 l0 x3_1).f10), .slice A374_11 ((rd_T25 l0 x3_1).f11).length c374_11]] (by rfl) rfl rfl (by (try simp only [List.map_toArray, List.map_cons, List.map_nil]); first | done | rfl | (simp only [List.length_drop, List.length_take]; rfl)) ?_
                  with_reducible refine (waybillplain_SameMsg.calls t357 t358 t359 t360 t361 t362 t363 t364 t365 t366 t367 _ _ t368 ((rd_T25 l0 x3_1).f0) ((rd_T25 l0 x3_1).f1) ((rd_T25 l0 x3_1).f2) ((rd_T25 l0 x3_1).f3) ((rd_T25 l0 x3_1).f4) ((rd_T25 l0 x3_1).f5) ((rd_T25 l0 x3_1).f6) ((rd_T25 l0 x3_1).f7) ((rd_T25 l0 x3_1).f8) ((rd_T25 l0 x3_1).f9) ((rd_T25 l0 x3_1).f10) _ _ ((rd_T25 l0 x3_1).f11) true _ ?side1 ?side2 ?side3 ?side4 A13.out).mono ?_
                  (case side1 => repeat (first | exact (Kd.R_reads' HO370.out).2.2 | (with_reducible refine Kd.C_alloc ?_ _) | (with_reducible refine Kd.C_drewN ?_ _) | (with_reducible refine Kd.C_drew ?_)))
                  (case side2 => exact (Kd.R_reads' HO370.out).2.1)
                  (case side3 => repeat (first | exact (Kd.C_below HR374_11.out (by repeat (first | (with_reducible first | exact HB.out | apply below_alloc | apply pw_below_drewN | apply below_drew1 | refine below_set ?_ GE372.out) | exact HB.out))) | (with_reducible refine Kd.C_alloc ?_ _) | (with_reducible refine Kd.C_drewN ?_ _) | (with_reducible refine Kd.C_drew ?_)))
                  (case side4 => exact HC374_11.out)
                  rintro e w23 ⟨rfl, hb⟩
                  refine ⟨_, rfl, ?_⟩
                  have n0_ := Aside0.mk (Kd.R_below (by (with_reducible repeat (first | apply Kd.R_alloc | apply Kd.R_drewN | apply Kd.R_drew)); exact HO354.out) hb)
                  have n1_ := Aside0.mk (Kd.R_below (by (with_reducible repeat (first | apply Kd.R_alloc | apply Kd.R_drewN | apply Kd.R_drew)); exact HO370.out) hb)
                  have n2_ := Aside0.mk (blk_below (g := gb372) (o := .cells #[.int .i64 t357, .int .i64 t358, .int .i64 t359, .int .i64 t360, .int .i64 t361, .int .i64 t362, .int .i64 t363, .int .i64 t364, .int .i64 t365, .int .i64 t366, .int .i64 t367, .slice Ao20 t368.length co20] 25 (0, 0)) (by (with_reducible repeat (first | refine blk_drewN ?_ _ | refine blk_drew ?_ | refine blk_alloc ?_ _)); exact BK372.out) hb)
                  have n3_ := Aside0.mk (below_step (by repeat (first | (with_reducible first | exact HB.out | apply below_alloc | apply pw_below_drewN | apply below_drew1 | refine below_set ?_ GE372.out) | exact HB.out)) hb)
                  clear HO354
                  clear HO370
                  clear BK372
                  clear HB
                  have HO354 := n0_
                  have HO370 := n1_
                  have BK372 := n2_
                  have HB := n3_
                  clear n0_ n1_ n2_ n3_
                  (try clear hb)
                  (try clear hb2)
                  (try clear hk)
                  (try clear hi)
                  refine hK.out _ _ ⟨(blk_cell BK372.out 0).trans rfl, (blk_cell BK372.out 1).trans rfl, (blk_cell BK372.out 2).trans rfl, (blk_cell BK372.out 3).trans rfl, (blk_cell BK372.out 4).trans rfl, (blk_cell BK372.out 5).trans rfl, (blk_cell BK372.out 6).trans rfl, (blk_cell BK372.out 7).trans rfl, (blk_cell BK372.out 8).trans rfl, (blk_cell BK372.out 9).trans rfl, (blk_cell BK372.out 10).trans rfl, (blk_cell BK372.out 11).trans rfl, ((HB.out.cell (World.block_lt_of_cell? w _ hw374_0)).trans hw374_0), ((HB.out.cell (World.block_lt_of_cell? w _ hw374_1)).trans hw374_1), ((HB.out.cell (World.block_lt_of_cell? w _ hw374_2)).trans hw374_2), ((HB.out.cell (World.block_lt_of_cell? w _ hw374_3)).trans hw374_3), ((HB.out.cell (World.block_lt_of_cell? w _ hw374_4)).trans hw374_4), ((HB.out.cell (World.block_lt_of_cell? w _ hw374_5)).trans hw374_5), ((HB.out.cell (World.block_lt_of_cell? w _ hw374_6)).trans hw374_6), ((HB.out.cell (World.block_lt_of_cell? w _ hw374_7)).trans hw374_7), ((HB.out.cell (World.block_lt_of_cell? w _ hw374_8)).trans hw374_8), ((HB.out.cell (World.block_lt_of_cell? w _ hw374_9)).trans hw374_9), ((HB.out.cell (World.block_lt_of_cell? w _ hw374_10)).trans hw374_10), ((HB.out.cell (World.block_lt_of_cell? w _ hw374_11)).trans hw374_11)⟩ (fun hHeld => ?_)
                  clear hK K
                  refine norm_ (a' := ?_) ?_ ?_
                  rotate_left
                  · show Act.put _ (some 48) _ = _
                    simp only [Act.put, List.setIfInBounds_toArray, List.set_cons_zero, List.set_cons_succ, i64_w, i32_w]
                    rfl
                  refine pure_ (i := 10) (N := some 49) (v := ?_) (a' := ?_) #[true, true, true, true, true, true, true, true, true, true, true, false] rfl rfl (any_of HT_.out (by kernel_rfl)) (fun _ _ _ h => h) (Or.inl ⟨by rfl, ?_⟩) ?_ ?_
                  rotate_left
                  · intro w'
                    go_simp
                    with_reducible rfl
                  rotate_left
                  · simp only [Act.put, List.setIfInBounds_toArray, List.set_cons_zero, List.set_cons_succ, i64_w, i32_w]
                    rfl
                  refine pure_ (i := 11) (N := some 50) (v := ?_) (a' := ?_) #[true, true, true, true, true, true, true, true, true, true, true, true] rfl rfl (any_of HT_.out (by kernel_rfl)) (fun _ _ _ h => h) (Or.inl ⟨by rfl, ?_⟩) ?_ ?_
                  rotate_left
                  · intro w'
                    go_simp
                    with_reducible rfl
                  rotate_left
                  · simp only [Act.put, List.setIfInBounds_toArray, List.set_cons_zero, List.set_cons_succ, i64_w, i32_w]
                    rfl
                  refine done_ (done_of HT_.out (by kernel_rfl)) ?_
                  try go_wp2
                  go_roundg k1
                  case measure => have := HK1.out; omega
                  case rel => exact ⟨(wrap64 (x3_1 + 1)), (by first | rfl | (simp; done) | (simp [*]; done)), H', ⟨by have := HK1.out; omega⟩, ⟨by repeat (first | (with_reducible first | exact HB.out | apply below_alloc | apply pw_below_drewN | apply below_drew1 | refine below_set ?_ GE372.out) | exact HB.out)⟩⟩
                · replace c14 := Bool.eq_false_iff.mpr c14
                  subst c14
                  have H1 : (some false) = some r := by rw [if_neg (show ¬ (false = true) by decide)] at H; exact H
                  clear H
                  have H := H1
                  clear H1
                  obtain rfl := Option.some.inj H
                  cases hrt
              · rw [if_neg c12] at H
                have c12b0 : (t373 == 0) = false := beq_eq_false_iff_ne.mpr c12
                have c12b1 : (t373 != 0) = true := bne_iff_ne.mpr c12
                obtain rfl := Option.some.inj H
                cases hrt
            · rw [if_neg c9] at H
              have c9b0 : (t356 == 0) = false := beq_eq_false_iff_ne.mpr c9
              have c9b1 : (t356 != 0) = true := bne_iff_ne.mpr c9
              obtain rfl := Option.some.inj H
              simp only [Option.some.injEq, Prod.mk.injEq] at H
              obtain ⟨rfl⟩ := H
              have p351 : 0 ≤ (x3_1 : Int) := of_decide_eq_true (by first | (with_reducible assumption) | assumption)
              have q351 : x3_1 < (l0.length : Int) := of_decide_eq_true (by first | (with_reducible assumption) | assumption)
              obtain ⟨ad351, A351_11, c351_11, e351, hx351_0, hx351_1, hx351_2, hx351_3, hx351_4, hx351_5, hx351_6, hx351_7, hx351_8, hx351_9, hx351_10, hx351_11, hl351_11, hi351_11⟩ := at_T25 HR0.out x3_1 p351 q351
              cases e351
              replace hx351_0 := (HB.out.cell (World.block_lt_of_cell? w _ hx351_0)).trans hx351_0
              replace hx351_1 := (HB.out.cell (World.block_lt_of_cell? w _ hx351_1)).trans hx351_1
              replace hx351_2 := (HB.out.cell (World.block_lt_of_cell? w _ hx351_2)).trans hx351_2
              replace hx351_3 := (HB.out.cell (World.block_lt_of_cell? w _ hx351_3)).trans hx351_3
              replace hx351_4 := (HB.out.cell (World.block_lt_of_cell? w _ hx351_4)).trans hx351_4
              replace hx351_5 := (HB.out.cell (World.block_lt_of_cell? w _ hx351_5)).trans hx351_5
              replace hx351_6 := (HB.out.cell (World.block_lt_of_cell? w _ hx351_6)).trans hx351_6
              replace hx351_7 := (HB.out.cell (World.block_lt_of_cell? w _ hx351_7)).trans hx351_7
              replace hx351_8 := (HB.out.cell (World.block_lt_of_cell? w _ hx351_8)).trans hx351_8
              replace hx351_9 := (HB.out.cell (World.block_lt_of_cell? w _ hx351_9)).trans hx351_9
              replace hx351_10 := (HB.out.cell (World.block_lt_of_cell? w _ hx351_10)).trans hx351_10
              replace hx351_11 := (HB.out.cell (World.block_lt_of_cell? w _ hx351_11)).trans hx351_11
              have HR351_11 := Aside0.mk hi351_11
              have HC351_11 := Aside0.mk hl351_11
              clear hi351_11 hl351_11
              replace p351 := eq_true p351
              replace q351 := eq_true q351
              go_wp2_with (first | ((with_reducible refine gate_callee (f := 13) rfl ?_); refine goesL_ (some 25) rfl rfl Try.func13 (by kernel_rfl) rfl #[.agg #[.int .i64 ((rd_T25 l0 x3_1).f0), .int .i64 ((rd_T25 l0 x3_1).f1), .int .i64 ((rd_T25 l0 x3_1).f2), .int .i64 ((rd_T25 l0 x3_1).f3), .int .i64 ((rd_T25 l0 x3_1).f4), .int .i64 ((rd_T25 l0 x3_1).f5), .int .i64 ((rd_T25 l0 x3_1).f6), .int .i64 ((rd_T25 l0 x3_1).f7), .int .i64 ((rd_T25 l0 x3_1).f8), .int .i64 ((rd_T25 l0 x3_1).f9), .int .i64 ((rd_T25 l0 x3_1).f10), .slice A351_11 ((rd_T25 l0 x3_1).f11).length c351_11]] rfl (by (try simp only [List.map_toArray, List.map_cons, List.map_nil]); first | done | rfl | (simp only [List.length_drop, List.length_take]; rfl)) ?_; (with_reducible refine (message_Encode.calls k1 ((rd_T25 l0 x3_1).f0) ((rd_T25 l0 x3_1).f1) ((rd_T25 l0 x3_1).f2) ((rd_T25 l0 x3_1).f3) ((rd_T25 l0 x3_1).f4) ((rd_T25 l0 x3_1).f5) ((rd_T25 l0 x3_1).f6) ((rd_T25 l0 x3_1).f7) ((rd_T25 l0 x3_1).f8) ((rd_T25 l0 x3_1).f9) ((rd_T25 l0 x3_1).f10) _ _ ((rd_T25 l0 x3_1).f11) t352 t355 _ ?side1 ?side2 A7.out).mono ?_); (case side1 => repeat (first | exact (Kd.C_below HR351_11.out HB.out) | (with_reducible refine Kd.C_alloc ?_ _) | (with_reducible refine Kd.C_drewN ?_ _) | (with_reducible refine Kd.C_drew ?_))); (case side2 => exact HC351_11.out); rintro e w24 ⟨v353, rfl, ho0, hb⟩; refine ⟨_, rfl, ?_⟩; have n0_ := Aside0.mk (Kd.R_lower ho0 (below_size (by repeat (first | (with_reducible first | exact HB.out | apply below_alloc | apply pw_below_drewN | apply below_drew1) | exact HB.out)))); have n1_ := Aside0.mk (below_step (by repeat (first | (with_reducible first | exact HB.out | apply below_alloc | apply pw_below_drewN | apply below_drew1) | exact HB.out)) hb); clear HB; have HO354 := n0_; have HB := n1_; clear n0_ n1_; (try clear hb); (try clear hb2); (try clear hk); (try clear hi); (try clear ho0)) | ((with_reducible refine gate_callee (f := 11) rfl ?_); refine goesL_ (some 29) rfl rfl Try.func11 (by kernel_rfl) rfl #[.int .i64 t355] rfl (by (try simp only [List.map_toArray, List.map_cons, List.map_nil]); first | done | rfl | (simp only [List.length_drop, List.length_take]; rfl)) ?_; (with_reducible refine (waybilllaw09_num.calls t355 t356 _ A8.out).mono ?_); rintro e w' ⟨rfl, ⟨nd, rfl⟩⟩; refine ⟨_, rfl, ?_⟩; obtain ⟨Ao25, co25, eo25⟩ := Kd.R_slice HO354.out; subst eo25))
              go_ret
              exact ⟨by first | rfl | (simp [errW_none, errW_some] <;> rfl) | (simp [*, errW_none, errW_some] <;> rfl), by repeat (first | (with_reducible first | exact HB.out | apply below_alloc | apply pw_below_drewN | apply below_drew1) | exact HB.out)⟩
          · rw [if_neg c6] at H
            exact absurd H (by simp)
        · rw [if_neg c5] at H
          have c5b0 : decide (x3_1 < (l0.length : Int)) = false := decide_eq_false c5
          clear c5
          replace H := Option.bind_eq_some_iff.mp H
          obtain ⟨⟨t376, t377⟩, A260, H⟩ := H
          replace H : ((message_Read.f k1 t376).bind fun bt380 => ((waybilllaw09_num.f t377).bind fun t384 => ((waybilllaw09_num.f bt380.2).bind fun t385 => (if (wrap64 (t384 + t385)) = 0 then ((waybillplain_SameMsgs.f k1 bt380.1 l0).bind fun t386 => (some t386)) else (some false))))) = some r := H
          have A26 := Aside0.mk A260
          clear A260
          replace H := Option.bind_eq_some_iff.mp H
          obtain ⟨⟨t380, t381⟩, A270, H⟩ := H
          replace H : ((waybilllaw09_num.f t377).bind fun t384 => ((waybilllaw09_num.f t381).bind fun t385 => (if (wrap64 (t384 + t385)) = 0 then ((waybillplain_SameMsgs.f k1 t380 l0).bind fun t386 => (some t386)) else (some false)))) = some r := H
          have A27 := Aside0.mk A270
          clear A270
          replace H := Option.bind_eq_some_iff.mp H
          obtain ⟨t384, A280, H⟩ := H
          replace H : ((waybilllaw09_num.f t381).bind fun t385 => (if (wrap64 (t384 + t385)) = 0 then ((waybillplain_SameMsgs.f k1 t380 l0).bind fun t386 => (some t386)) else (some false))) = some r := H
          have A28 := Aside0.mk A280
          clear A280
          replace H := Option.bind_eq_some_iff.mp H
          obtain ⟨t385, A290, H⟩ := H
          replace H : (if (wrap64 (t384 + t385)) = 0 then ((waybillplain_SameMsgs.f k1 t380 l0).bind fun t386 => (some t386)) else (some false)) = some r := H
          have A29 := Aside0.mk A290
          clear A290
          by_cases c30 : (wrap64 (t384 + t385)) = 0
          · rw [if_pos c30] at H
            have c30b0 : ((wrap64 (t384 + t385)) == 0) = true := beq_iff_eq.mpr c30
            have c30b1 : ((wrap64 (t384 + t385)) != 0) = false := bne_eq_false_iff_eq.mpr c30
            clear c30
            replace H := Option.bind_eq_some_iff.mp H
            obtain ⟨t386, A310, H⟩ := H
            replace H : (some t386) = some r := H
            have A31 := Aside0.mk A310
            clear A310
            obtain rfl := Option.some.inj H
            simp only [Option.some.injEq, Prod.mk.injEq] at H
            obtain ⟨rfl⟩ := H
            go_wp2_with (first | ((with_reducible refine gate_callee (f := 20) rfl ?_); refine goesL_ (some 53) rfl rfl Try.func20 (by kernel_rfl) rfl #[.slice A0 l0.length c0] rfl (by (try simp only [List.map_toArray, List.map_cons, List.map_nil]); first | done | rfl | (simp only [List.length_drop, List.length_take]; rfl)) ?_; (with_reducible refine (message_Frames.calls k1 _ _ l0 t376 t377 _ ?side1 ?side2 A26.out).mono ?_); (case side1 => repeat (first | exact (Kd.C_below HR0.out HB.out) | (with_reducible refine Kd.C_alloc ?_ _) | (with_reducible refine Kd.C_drewN ?_ _) | (with_reducible refine Kd.C_drew ?_))); (case side2 => exact HC0.out); rintro e w32 ⟨v378, rfl, ho0, hb⟩; refine ⟨_, rfl, ?_⟩; have n0_ := Aside0.mk (Kd.R_lower ho0 (below_size (by repeat (first | (with_reducible first | exact HB.out | apply below_alloc | apply pw_below_drewN | apply below_drew1) | exact HB.out)))); have n1_ := Aside0.mk (below_step (by repeat (first | (with_reducible first | exact HB.out | apply below_alloc | apply pw_below_drewN | apply below_drew1) | exact HB.out)) hb); clear HB; have HO379 := n0_; have HB := n1_; clear n0_ n1_; (try clear hb); (try clear hb2); (try clear hk); (try clear hi); (try clear ho0); obtain ⟨Ao33, co33, eo33⟩ := Kd.R_slice HO379.out; subst eo33) | ((with_reducible refine gate_callee (f := 21) rfl ?_); refine goesL_ (some 58) rfl rfl Try.func21 (by kernel_rfl) rfl #[.slice Ao33 t376.length co33] rfl (by (try simp only [List.map_toArray, List.map_cons, List.map_nil]); first | done | rfl | (simp only [List.length_drop, List.length_take]; rfl)) ?_; (with_reducible refine (message_Read.calls k1 _ _ t376 t380 t381 _ ?side1 ?side2 A27.out).mono ?_); (case side1 => repeat (first | exact (Kd.R_reads' HO379.out).2.2 | (with_reducible refine Kd.C_alloc ?_ _) | (with_reducible refine Kd.C_drewN ?_ _) | (with_reducible refine Kd.C_drew ?_))); (case side2 => exact (Kd.R_reads' HO379.out).2.1); rintro e w34 ⟨v382, rfl, ho0, hb⟩; refine ⟨_, rfl, ?_⟩; have n0_ := Aside0.mk (Kd.R_below (by (with_reducible repeat (first | apply Kd.R_alloc | apply Kd.R_drewN | apply Kd.R_drew)); exact HO379.out) hb); have n1_ := Aside0.mk (Kd.S_lower (Kd.S_new' ho0 (Kd.R_lt (by (with_reducible repeat (first | apply Kd.R_alloc | apply Kd.R_drewN | apply Kd.R_drew)); exact HO379.out))) (below_size (by repeat (first | (with_reducible first | exact HB.out | apply below_alloc | apply pw_below_drewN | apply below_drew1) | exact HB.out)))); have n2_ := Aside0.mk (below_step (by repeat (first | (with_reducible first | exact HB.out | apply below_alloc | apply pw_below_drewN | apply below_drew1) | exact HB.out)) hb); clear HO379; clear HB; have HO379 := n0_; have HO383 := n1_; have HB := n2_; clear n0_ n1_ n2_; (try clear hb); (try clear hb2); (try clear hk); (try clear hi); (try clear ho0)) | ((with_reducible refine gate_callee (f := 11) rfl ?_); refine goesL_ (some 62) rfl rfl Try.func11 (by kernel_rfl) rfl #[.int .i64 t377] rfl (by (try simp only [List.map_toArray, List.map_cons, List.map_nil]); first | done | rfl | (simp only [List.length_drop, List.length_take]; rfl)) ?_; (with_reducible refine (waybilllaw09_num.calls t377 t384 _ A28.out).mono ?_); rintro e w' ⟨rfl, ⟨nd, rfl⟩⟩; refine ⟨_, rfl, ?_⟩) | ((with_reducible refine gate_callee (f := 11) rfl ?_); refine goesL_ (some 64) rfl rfl Try.func11 (by kernel_rfl) rfl #[.int .i64 t381] rfl (by (try simp only [List.map_toArray, List.map_cons, List.map_nil]); first | done | rfl | (simp only [List.length_drop, List.length_take]; rfl)) ?_; (with_reducible refine (waybilllaw09_num.calls t381 t385 _ A29.out).mono ?_); rintro e w' ⟨rfl, ⟨nd, rfl⟩⟩; refine ⟨_, rfl, ?_⟩; obtain ⟨Ao35, co35, eo35⟩ := Kd.S_slice HO383.out; subst eo35) | (go_at_call 22; (with_reducible refine (waybillplain_SameMsgs.calls k1 _ _ t380 _ _ l0 t386 _ ?side1 ?side2 ?side3 ?side4 A31.out).mono ?_); (case side1 => repeat (first | exact (Kd.S_reads' HO383.out).2.2 | (with_reducible refine Kd.C_alloc ?_ _) | (with_reducible refine Kd.C_drewN ?_ _) | (with_reducible refine Kd.C_drew ?_))); (case side2 => exact (Kd.S_reads' HO383.out).2.1); (case side3 => repeat (first | exact (Kd.C_below HR0.out (by repeat (first | (with_reducible first | exact HB.out | apply below_alloc | apply pw_below_drewN | apply below_drew1) | exact HB.out))) | (with_reducible refine Kd.C_alloc ?_ _) | (with_reducible refine Kd.C_drewN ?_ _) | (with_reducible refine Kd.C_drew ?_))); (case side4 => exact HC0.out); rintro e w36 ⟨rfl, hb⟩; have n0_ := Aside0.mk (Kd.R_below (by (with_reducible repeat (first | apply Kd.R_alloc | apply Kd.R_drewN | apply Kd.R_drew)); exact HO379.out) hb); have n1_ := Aside0.mk (Kd.S_below (by (with_reducible repeat (first | apply Kd.S_alloc | apply Kd.S_drewN | apply Kd.S_drew)); exact HO383.out) hb); have n2_ := Aside0.mk (below_step (by repeat (first | (with_reducible first | exact HB.out | apply below_alloc | apply pw_below_drewN | apply below_drew1) | exact HB.out)) hb); clear HO379; clear HO383; clear HB; have HO379 := n0_; have HO383 := n1_; have HB := n2_; clear n0_ n1_ n2_; (try clear hb); (try clear hb2); (try clear hk); (try clear hi)))
            go_ret
            exact ⟨by first | rfl | (simp [errW_none, errW_some] <;> rfl) | (simp [*, errW_none, errW_some] <;> rfl), by repeat (first | (with_reducible first | exact HB.out | apply below_alloc | apply pw_below_drewN | apply below_drew1) | exact HB.out)⟩
          · rw [if_neg c30] at H
            have c30b0 : ((wrap64 (t384 + t385)) == 0) = false := beq_eq_false_iff_ne.mpr c30
            have c30b1 : ((wrap64 (t384 + t385)) != 0) = true := bne_iff_ne.mpr c30
            obtain rfl := Option.some.inj H
            cases hrt
  · replace c3 := Bool.eq_false_iff.mpr c3
    subst c3
    have H1 : (some false) = some r := by rw [if_neg (show ¬ (false = true) by decide)] at H; exact H
    clear H
    have H := H1
    clear H1
    obtain rfl := Option.some.inj H
    cases hrt
end Go.Proofs.Ytkddlhcpplkpbaa.G
end
