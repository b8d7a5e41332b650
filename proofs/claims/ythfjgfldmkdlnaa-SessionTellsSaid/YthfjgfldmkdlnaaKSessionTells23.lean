/- SessionTells: texts of this claim, packed: what the kit's print has written for it and own texts, without what its proof does not reach. -/
import Derived.Test.YthfjgfldmkdlnaaKSessionTells11
import Derived.Test.YthfjgfldmkdlnaaKSessionTells15
import Derived.Test.YthfjgfldmkdlnaaKSessionTells16
import Derived.Test.YthfjgfldmkdlnaaKSessionTells17
import Derived.Test.YthfjgfldmkdlnaaKSessionTells18
import Derived.Test.YthfjgfldmkdlnaaKSessionTells19
import Derived.Test.YthfjgfldmkdlnaaKSessionTells20
set_option linter.unusedVariables false
set_option linter.unusedSimpArgs false
set_option linter.unusedSectionVars false
section
namespace Go.Proofs.Ythfjgfldmkdlnaa.G
open WB Go.RowKit Go.Proofs.YthfjgfldmkdlnaaW.PrintWords Go.Proofs.YthfjgfldmkdlnaaW.PrintLast Go.Proofs.YthfjgfldmkdlnaaW.PrintMore
attribute [local go_sem] max2_int min2_int max_two min_two max_three min_three max_four min_four   -- for this text's walks alone
set_option linter.unusedVariables false
set_option linter.unusedSimpArgs false
def waybillref23_Find.l0 : Nat → List (S38) → Int → Int → Int → Option (Int × Int)
  | 0, _, _, _, _ => none
  | k + 1, x0, x4, x5, x15 => if x15 < (x0.length : Int) then (if 0 ≤ x15 then (if ((rd_T38 x0 x15).f0) = x4 then (if ((rd_T38 x0 x15).f1) = x5 then (some (x15, 0)) else (waybillref23_Find.l0 k x0 x4 x5 (wrap64 (x15 + 1)))) else (waybillref23_Find.l0 k x0 x4 x5 (wrap64 (x15 + 1)))) else (none)) else (some (0, 71))
def waybillref23_Find.f (k : Nat) (l0 : List (S38)) (a1_0 : Int) (a1_1 : Int) (a1_2 : Int) (a2 : Int) (a3 : Int) (a4 : Int) (a5 : Int) : Option (Int × Int) := (waybillref23_Check.f l0 a1_0 a1_1 a1_2 a2 a3).bind fun t281 => (if t281 = 0 then (waybillref23_Find.l0 k l0 a4 a5 0) else (some (0, t281)))
theorem waybillref23_Find.mono_l : ∀ k, (∀ y0 y1 y2 y3, LeO (waybillref23_Find.l0 k y0 y1 y2 y3) (waybillref23_Find.l0 (k + 1) y0 y1 y2 y3))
  | 0 => fun _ _ _ _ r h => by simp [waybillref23_Find.l0] at h
  | k + 1 => by
    have ih0 := waybillref23_Find.mono_l k
    · intro y0 y1 y2 y3
      unfold waybillref23_Find.l0
      repeat' first
      | (with_reducible exact ih0 _ _ _ _)
      | (with_reducible exact LeO.refl _)
      | (with_reducible exact LeO.none _)
      | (with_reducible refine LeO.ite ?_ ?_)
      | (with_reducible refine LeO.bind ?_ (fun _ => ?_))
      | exact ih0 _ _ _ _
      | exact LeO.none _
      | refine LeO.ite ?_ ?_
      | refine LeO.bind ?_ (fun _ => ?_)
theorem waybillref23_Find.mono : ∀ a0 a1 a2 a3 a4 a5 a6 a7 k, LeO (waybillref23_Find.f k a0 a1 a2 a3 a4 a5 a6 a7) (waybillref23_Find.f (k + 1) a0 a1 a2 a3 a4 a5 a6 a7) := by
  intro a0 a1 a2 a3 a4 a5 a6 a7 k
  have ih0 := waybillref23_Find.mono_l k
  unfold waybillref23_Find.f
  repeat' first
      | (with_reducible exact ih0 _ _ _ _)
      | (with_reducible exact LeO.refl _)
      | (with_reducible exact LeO.none _)
      | (with_reducible refine LeO.ite ?_ ?_)
      | (with_reducible refine LeO.bind ?_ (fun _ => ?_))
      | exact ih0 _ _ _ _
      | exact LeO.none _
      | refine LeO.ite ?_ ?_
      | refine LeO.bind ?_ (fun _ => ?_)
set_option maxHeartbeats 8000000 in
set_option maxRecDepth 100000 in
theorem waybillref23_Find.calls (k : Nat) (A0 : Option Addr) (c0 : Nat) (l0 : List (S38)) (a1_0 : Int) (a1_1 : Int) (a1_2 : Int) (a2 : Int) (a3 : Int) (a4 : Int) (a5 : Int) (r1 : Int) (r2 : Int) (w : World) (hr0 : Kd.C k38 w A0 l0.length l0) (hc0 : l0.length ≤ c0) (h : waybillref23_Find.f k l0 a1_0 a1_1 a1_2 a2 a3 a4 a5 = some (r1, r2)) :
    Calls Try.prog 23 #[.slice A0 l0.length c0, .agg #[.int .i64 a1_0, .int .i64 a1_1, .int .i64 a1_2], .int .i64 a2, .int .i64 a3, .int .i64 a4, .int .i64 a5] w fun e w' => e = .returned (.tuple #[.int .i64 r1, .int .i64 r2]) ∧ Below w.heap.size w w' := by
  have hu24 := Try.underlying24
  have HR0 := Aside0.mk hr0
  have HC0 := Aside0.mk hc0
  clear hr0 hc0
  have HB := Aside0.mk (Below.refl w.heap.size w)
  have H : ((waybillref23_Check.f l0 a1_0 a1_1 a1_2 a2 a3).bind fun t281 => (if t281 = 0 then (waybillref23_Find.l0 k l0 a4 a5 0) else (some (0, t281)))) = some (r1, r2) := h
  clear h
  replace H := Option.bind_eq_some_iff.mp H
  obtain ⟨t281, A70, H⟩ := H
  replace H : (if t281 = 0 then (waybillref23_Find.l0 k l0 a4 a5 0) else (some (0, t281))) = some (r1, r2) := H
  have A7 := Aside0.mk A70
  clear A70
  by_cases c8 : t281 = 0
  · rw [if_pos c8] at H
    have c8b0 : (t281 == 0) = true := beq_iff_eq.mpr c8
    have c8b1 : (t281 != 0) = false := bne_eq_false_iff_eq.mpr c8
    clear c8
    have H' := Aside0.mk H
    clear H
    go_enter Try.func23, Try.ntmps23
    go_wp2_with (first | ((with_reducible refine gate_dst (N := 7) rfl ?_); refine box_event ?hg (N := 7) ?hd (cs := #[.int .i64 a1_0, .int .i64 a1_1, .int .i64 a1_2]) (t := 24) ?hr ?_; (case hd => rfl); (case hg => rfl); (case hr => first | (go_simp; done) | (go_simp; rfl)); intro gb280 hg w9 hbox hb; have n0_ := Aside0.mk (below_step (by repeat (first | (with_reducible first | exact HB.out | apply below_alloc | apply pw_below_drewN | apply below_drew1) | exact HB.out)) hb); have n1_ := Aside0.mk (hbox); have n2_ := Aside0.mk ((by rw [hg]; exact (below_size (by repeat (first | (with_reducible first | exact HB.out | apply below_alloc | apply pw_below_drewN | apply below_drew1) | exact HB.out))) : w.heap.size ≤ gb280)); have n3_ := Aside0.mk ((by rw [hg]; exact (below_size (by repeat (first | (with_reducible first | exact HB.out | apply below_alloc | apply pw_below_drewN | apply below_drew1) | exact HB.out))) : w.heap.size ≤ gb280)); clear HB; have HB := n0_; have BK280 := n1_; have GW280 := n2_; have GE280 := n3_; clear n0_ n1_ n2_ n3_; clear hb hbox hg; have hcz10_0 : w9.cell? ⟨gb280, 0, none⟩ = some (.int .i64 a1_0) := (blk_cell BK280.out 0).trans rfl; have hcz10_1 : w9.cell? ⟨gb280, 1, none⟩ = some (.int .i64 a1_1) := (blk_cell BK280.out 1).trans rfl; have hcz10_2 : w9.cell? ⟨gb280, 2, none⟩ = some (.int .i64 a1_2) := (blk_cell BK280.out 2).trans rfl; have hfz10_0 := blk_frozen BK280.out 0; have hfz10_1 := blk_frozen BK280.out 1; have hfz10_2 := blk_frozen BK280.out 2) | ((with_reducible refine gate_callee (f := 28) rfl ?_); refine goesL_ (some 20) rfl rfl Try.func28 (by kernel_rfl) rfl #[.slice A0 l0.length c0, .agg #[.int .i64 a1_0, .int .i64 a1_1, .int .i64 a1_2], .int .i64 a2, .int .i64 a3] rfl (by (try simp only [List.map_toArray, List.map_cons, List.map_nil]); first | done | rfl | (simp only [List.length_drop, List.length_take]; rfl)) ?_; (with_reducible refine (waybillref23_Check.calls _ _ l0 a1_0 a1_1 a1_2 a2 a3 t281 _ ?side1 ?side2 A7.out).mono ?_); (case side1 => repeat (first | exact (Kd.C_below HR0.out HB.out) | (with_reducible refine Kd.C_alloc ?_ _) | (with_reducible refine Kd.C_drewN ?_ _) | (with_reducible refine Kd.C_drew ?_))); (case side2 => exact HC0.out); rintro e w11 ⟨rfl, hb⟩; refine ⟨_, rfl, ?_⟩; have n0_ := Aside0.mk (blk_below (g := gb280) (o := .cells #[.int .i64 a1_0, .int .i64 a1_1, .int .i64 a1_2] 24 (0, 0)) (by (with_reducible repeat (first | refine blk_drewN ?_ _ | refine blk_drew ?_ | refine blk_alloc ?_ _)); exact BK280.out) hb); have n1_ := Aside0.mk (below_step (by repeat (first | (with_reducible first | exact HB.out | apply below_alloc | apply pw_below_drewN | apply below_drew1 | refine below_set ?_ GE280.out) | exact HB.out)) hb); clear BK280; clear HB; have BK280 := n0_; have HB := n1_; clear n0_ n1_; (try clear hb); (try clear hb2); (try clear hk); (try clear hi)))
    go_loopg [15] k (fun kq v15 w' => ∃ (x15_1 : Int), v15 = .int .i64 x15_1 ∧ Aside0 (waybillref23_Find.l0 kq l0 a4 a5 x15_1 = some (r1, r2)) ∧ Aside0 (kq ≤ k) ∧ Aside0 (w'.heap[gb280]? = some (.cells #[.int .i64 a1_0, .int .i64 a1_1, .int .i64 a1_2] 24 (0, 0))) ∧ Aside0 (Below w.heap.size w w'))
    case atStart => exact ⟨(0), (by first | rfl | (simp; done) | (simp [*]; done)), H', ⟨Nat.le_refl _⟩, ⟨by (with_reducible repeat (first | refine blk_drewN ?_ _ | refine blk_drew ?_ | refine blk_alloc ?_ _)); exact BK280.out⟩, ⟨by repeat (first | (with_reducible first | exact HB.out | apply below_alloc | apply pw_below_drewN | apply below_drew1 | refine below_set ?_ GE280.out) | exact HB.out)⟩⟩
    case round =>
      clear H'
      try clear c2
      try clear p2
      try clear c8
      try clear c8b0
      try clear c8b1
      try clear hcz10_0
      try clear hcz10_1
      try clear hcz10_2
      try clear hfz10_0
      try clear hfz10_1
      try clear hfz10_2
      obtain ⟨x15_1, rfl, HA, HK1, BK280, HB⟩ := hrel
      cases gk with
      | zero => exact absurd HA.out (by simp [waybillref23_Find.l0])
      | succ k1 =>
        have H := HA.out
        clear HA
        simp only [waybillref23_Find.l0] at H
        by_cases c12 : x15_1 < (l0.length : Int)
        · rw [if_pos c12] at H
          have c12b0 : decide (x15_1 < (l0.length : Int)) = true := decide_eq_true c12
          clear c12
          by_cases c13 : 0 ≤ x15_1
          · rw [if_pos c13] at H
            have c13b0 : decide (0 ≤ x15_1) = true := decide_eq_true c13
            clear c13
            by_cases c14 : ((rd_T38 l0 x15_1).f0) = a4
            · rw [if_pos c14] at H
              have c14b0 : (((rd_T38 l0 x15_1).f0) == a4) = true := beq_iff_eq.mpr c14
              have c14b1 : (((rd_T38 l0 x15_1).f0) != a4) = false := bne_eq_false_iff_eq.mpr c14
              clear c14
              by_cases c15 : ((rd_T38 l0 x15_1).f1) = a5
              · rw [if_pos c15] at H
                have c15b0 : (((rd_T38 l0 x15_1).f1) == a5) = true := beq_iff_eq.mpr c15
                have c15b1 : (((rd_T38 l0 x15_1).f1) != a5) = false := bne_eq_false_iff_eq.mpr c15
                clear c15
                simp only [Option.some.injEq, Prod.mk.injEq] at H
                obtain ⟨rfl, rfl⟩ := H
                have p282 : 0 ≤ (x15_1 : Int) := of_decide_eq_true (by first | (with_reducible assumption) | assumption)
                have q282 : x15_1 < (l0.length : Int) := of_decide_eq_true (by first | (with_reducible assumption) | assumption)
                obtain ⟨ad282, A282_4, c282_4, e282, hx282_0, hx282_1, hx282_2, hx282_3, hx282_4, hl282_4, hi282_4⟩ := at_T38 HR0.out x15_1 p282 q282
                cases e282
                replace hx282_0 := (HB.out.cell (World.block_lt_of_cell? w _ hx282_0)).trans hx282_0
                replace hx282_1 := (HB.out.cell (World.block_lt_of_cell? w _ hx282_1)).trans hx282_1
                replace hx282_2 := (HB.out.cell (World.block_lt_of_cell? w _ hx282_2)).trans hx282_2
                replace hx282_3 := (HB.out.cell (World.block_lt_of_cell? w _ hx282_3)).trans hx282_3
                replace hx282_4 := (HB.out.cell (World.block_lt_of_cell? w _ hx282_4)).trans hx282_4
                have HR282_4 := Aside0.mk hi282_4
                have HC282_4 := Aside0.mk hl282_4
                clear hi282_4 hl282_4
                replace p282 := eq_true p282
                replace q282 := eq_true q282
                have p283 : 0 ≤ (x15_1 : Int) := of_decide_eq_true (by first | (with_reducible assumption) | assumption)
                have q283 : x15_1 < (l0.length : Int) := of_decide_eq_true (by first | (with_reducible assumption) | assumption)
                obtain ⟨ad283, A283_4, c283_4, e283, hx283_0, hx283_1, hx283_2, hx283_3, hx283_4, hl283_4, hi283_4⟩ := at_T38 HR0.out x15_1 p283 q283
                obtain rfl : ad282 = ad283 := (by injection e283)
                replace hx283_0 := (HB.out.cell (World.block_lt_of_cell? w _ hx283_0)).trans hx283_0
                replace hx283_1 := (HB.out.cell (World.block_lt_of_cell? w _ hx283_1)).trans hx283_1
                replace hx283_2 := (HB.out.cell (World.block_lt_of_cell? w _ hx283_2)).trans hx283_2
                replace hx283_3 := (HB.out.cell (World.block_lt_of_cell? w _ hx283_3)).trans hx283_3
                replace hx283_4 := (HB.out.cell (World.block_lt_of_cell? w _ hx283_4)).trans hx283_4
                have HR283_4 := Aside0.mk hi283_4
                have HC283_4 := Aside0.mk hl283_4
                clear hi283_4 hl283_4
                replace p283 := eq_true p283
                replace q283 := eq_true q283
                have ea_ := Option.some.inj (hx282_4.symm.trans hx283_4)
                injection ea_ with ea_ en_ ec_
                subst ea_
                subst ec_
                clear en_
                go_wp2
                go_ret2
                exact ⟨by first | rfl | (simp [errW_none, errW_some] <;> rfl) | (simp [*, errW_none, errW_some] <;> rfl), by repeat (first | (with_reducible first | exact HB.out | apply below_alloc | apply pw_below_drewN | apply below_drew1 | refine below_set ?_ GE280.out) | exact HB.out)⟩
              · rw [if_neg c15] at H
                have c15b0 : (((rd_T38 l0 x15_1).f1) == a5) = false := beq_eq_false_iff_ne.mpr c15
                have c15b1 : (((rd_T38 l0 x15_1).f1) != a5) = true := bne_iff_ne.mpr c15
                have H' := Aside0.mk H
                clear H
                have p282 : 0 ≤ (x15_1 : Int) := of_decide_eq_true (by first | (with_reducible assumption) | assumption)
                have q282 : x15_1 < (l0.length : Int) := of_decide_eq_true (by first | (with_reducible assumption) | assumption)
                obtain ⟨ad282, A282_4, c282_4, e282, hx282_0, hx282_1, hx282_2, hx282_3, hx282_4, hl282_4, hi282_4⟩ := at_T38 HR0.out x15_1 p282 q282
                cases e282
                replace hx282_0 := (HB.out.cell (World.block_lt_of_cell? w _ hx282_0)).trans hx282_0
                replace hx282_1 := (HB.out.cell (World.block_lt_of_cell? w _ hx282_1)).trans hx282_1
                replace hx282_2 := (HB.out.cell (World.block_lt_of_cell? w _ hx282_2)).trans hx282_2
                replace hx282_3 := (HB.out.cell (World.block_lt_of_cell? w _ hx282_3)).trans hx282_3
                replace hx282_4 := (HB.out.cell (World.block_lt_of_cell? w _ hx282_4)).trans hx282_4
                have HR282_4 := Aside0.mk hi282_4
                have HC282_4 := Aside0.mk hl282_4
                clear hi282_4 hl282_4
                replace p282 := eq_true p282
                replace q282 := eq_true q282
                have p283 : 0 ≤ (x15_1 : Int) := of_decide_eq_true (by first | (with_reducible assumption) | assumption)
                have q283 : x15_1 < (l0.length : Int) := of_decide_eq_true (by first | (with_reducible assumption) | assumption)
                obtain ⟨ad283, A283_4, c283_4, e283, hx283_0, hx283_1, hx283_2, hx283_3, hx283_4, hl283_4, hi283_4⟩ := at_T38 HR0.out x15_1 p283 q283
                obtain rfl : ad282 = ad283 := (by injection e283)
                replace hx283_0 := (HB.out.cell (World.block_lt_of_cell? w _ hx283_0)).trans hx283_0
                replace hx283_1 := (HB.out.cell (World.block_lt_of_cell? w _ hx283_1)).trans hx283_1
                replace hx283_2 := (HB.out.cell (World.block_lt_of_cell? w _ hx283_2)).trans hx283_2
                replace hx283_3 := (HB.out.cell (World.block_lt_of_cell? w _ hx283_3)).trans hx283_3
                replace hx283_4 := (HB.out.cell (World.block_lt_of_cell? w _ hx283_4)).trans hx283_4
                have HR283_4 := Aside0.mk hi283_4
                have HC283_4 := Aside0.mk hl283_4
                clear hi283_4 hl283_4
                replace p283 := eq_true p283
                replace q283 := eq_true q283
                have ea_ := Option.some.inj (hx282_4.symm.trans hx283_4)
                injection ea_ with ea_ en_ ec_
                subst ea_
                subst ec_
                clear en_
                go_wp2
                go_roundg k1
                case measure => have := HK1.out; omega
                case rel => exact ⟨(wrap64 (x15_1 + 1)), (by first | rfl | (simp; done) | (simp [*]; done)), H', ⟨by have := HK1.out; omega⟩, ⟨by (with_reducible repeat (first | refine blk_drewN ?_ _ | refine blk_drew ?_ | refine blk_alloc ?_ _)); exact BK280.out⟩, ⟨by repeat (first | (with_reducible first | exact HB.out | apply below_alloc | apply pw_below_drewN | apply below_drew1 | refine below_set ?_ GE280.out) | exact HB.out)⟩⟩
            · rw [if_neg c14] at H
              have c14b0 : (((rd_T38 l0 x15_1).f0) == a4) = false := beq_eq_false_iff_ne.mpr c14
              have c14b1 : (((rd_T38 l0 x15_1).f0) != a4) = true := bne_iff_ne.mpr c14
              have H' := Aside0.mk H
              clear H
              have p282 : 0 ≤ (x15_1 : Int) := of_decide_eq_true (by first | (with_reducible assumption) | assumption)
              have q282 : x15_1 < (l0.length : Int) := of_decide_eq_true (by first | (with_reducible assumption) | assumption)
              obtain ⟨ad282, A282_4, c282_4, e282, hx282_0, hx282_1, hx282_2, hx282_3, hx282_4, hl282_4, hi282_4⟩ := at_T38 HR0.out x15_1 p282 q282
              cases e282
              replace hx282_0 := (HB.out.cell (World.block_lt_of_cell? w _ hx282_0)).trans hx282_0
              replace hx282_1 := (HB.out.cell (World.block_lt_of_cell? w _ hx282_1)).trans hx282_1
              replace hx282_2 := (HB.out.cell (World.block_lt_of_cell? w _ hx282_2)).trans hx282_2
              replace hx282_3 := (HB.out.cell (World.block_lt_of_cell? w _ hx282_3)).trans hx282_3
              replace hx282_4 := (HB.out.cell (World.block_lt_of_cell? w _ hx282_4)).trans hx282_4
              have HR282_4 := Aside0.mk hi282_4
              have HC282_4 := Aside0.mk hl282_4
              clear hi282_4 hl282_4
              replace p282 := eq_true p282
              replace q282 := eq_true q282
              go_wp2
              go_roundg k1
              case measure => have := HK1.out; omega
              case rel => exact ⟨(wrap64 (x15_1 + 1)), (by first | rfl | (simp; done) | (simp [*]; done)), H', ⟨by have := HK1.out; omega⟩, ⟨by (with_reducible repeat (first | refine blk_drewN ?_ _ | refine blk_drew ?_ | refine blk_alloc ?_ _)); exact BK280.out⟩, ⟨by repeat (first | (with_reducible first | exact HB.out | apply below_alloc | apply pw_below_drewN | apply below_drew1 | refine below_set ?_ GE280.out) | exact HB.out)⟩⟩
          · rw [if_neg c13] at H
            exact absurd H (by simp)
        · rw [if_neg c12] at H
          have c12b0 : decide (x15_1 < (l0.length : Int)) = false := decide_eq_false c12
          clear c12
          simp only [Option.some.injEq, Prod.mk.injEq] at H
          obtain ⟨rfl, rfl⟩ := H
          go_wp2
          go_ret2
          exact ⟨by first | rfl | (simp [errW_none, errW_some] <;> rfl) | (simp [*, errW_none, errW_some] <;> rfl), by repeat (first | (with_reducible first | exact HB.out | apply below_alloc | apply pw_below_drewN | apply below_drew1 | refine below_set ?_ GE280.out) | exact HB.out)⟩
  · rw [if_neg c8] at H
    have c8b0 : (t281 == 0) = false := beq_eq_false_iff_ne.mpr c8
    have c8b1 : (t281 != 0) = true := bne_iff_ne.mpr c8
    simp only [Option.some.injEq, Prod.mk.injEq] at H
    obtain ⟨rfl, rfl⟩ := H
    go_enter Try.func23, Try.ntmps23
    go_wp2_with (first | ((with_reducible refine gate_dst (N := 7) rfl ?_); refine box_event ?hg (N := 7) ?hd (cs := #[.int .i64 a1_0, .int .i64 a1_1, .int .i64 a1_2]) (t := 24) ?hr ?_; (case hd => rfl); (case hg => rfl); (case hr => first | (go_simp; done) | (go_simp; rfl)); intro gb280 hg w16 hbox hb; have n0_ := Aside0.mk (below_step (by repeat (first | (with_reducible first | exact HB.out | apply below_alloc | apply pw_below_drewN | apply below_drew1) | exact HB.out)) hb); have n1_ := Aside0.mk (hbox); have n2_ := Aside0.mk ((by rw [hg]; exact (below_size (by repeat (first | (with_reducible first | exact HB.out | apply below_alloc | apply pw_below_drewN | apply below_drew1) | exact HB.out))) : w.heap.size ≤ gb280)); have n3_ := Aside0.mk ((by rw [hg]; exact (below_size (by repeat (first | (with_reducible first | exact HB.out | apply below_alloc | apply pw_below_drewN | apply below_drew1) | exact HB.out))) : w.heap.size ≤ gb280)); clear HB; have HB := n0_; have BK280 := n1_; have GW280 := n2_; have GE280 := n3_; clear n0_ n1_ n2_ n3_; clear hb hbox hg; have hcz17_0 : w16.cell? ⟨gb280, 0, none⟩ = some (.int .i64 a1_0) := (blk_cell BK280.out 0).trans rfl; have hcz17_1 : w16.cell? ⟨gb280, 1, none⟩ = some (.int .i64 a1_1) := (blk_cell BK280.out 1).trans rfl; have hcz17_2 : w16.cell? ⟨gb280, 2, none⟩ = some (.int .i64 a1_2) := (blk_cell BK280.out 2).trans rfl; have hfz17_0 := blk_frozen BK280.out 0; have hfz17_1 := blk_frozen BK280.out 1; have hfz17_2 := blk_frozen BK280.out 2) | ((with_reducible refine gate_callee (f := 28) rfl ?_); refine goesL_ (some 20) rfl rfl Try.func28 (by kernel_rfl) rfl #[.slice A0 l0.length c0, .agg #[.int .i64 a1_0, .int .i64 a1_1, .int .i64 a1_2], .int .i64 a2, .int .i64 a3] rfl (by (try simp only [List.map_toArray, List.map_cons, List.map_nil]); first | done | rfl | (simp only [List.length_drop, List.length_take]; rfl)) ?_; (with_reducible refine (waybillref23_Check.calls _ _ l0 a1_0 a1_1 a1_2 a2 a3 t281 _ ?side1 ?side2 A7.out).mono ?_); (case side1 => repeat (first | exact (Kd.C_below HR0.out HB.out) | (with_reducible refine Kd.C_alloc ?_ _) | (with_reducible refine Kd.C_drewN ?_ _) | (with_reducible refine Kd.C_drew ?_))); (case side2 => exact HC0.out); rintro e w18 ⟨rfl, hb⟩; refine ⟨_, rfl, ?_⟩; have n0_ := Aside0.mk (blk_below (g := gb280) (o := .cells #[.int .i64 a1_0, .int .i64 a1_1, .int .i64 a1_2] 24 (0, 0)) (by (with_reducible repeat (first | refine blk_drewN ?_ _ | refine blk_drew ?_ | refine blk_alloc ?_ _)); exact BK280.out) hb); have n1_ := Aside0.mk (below_step (by repeat (first | (with_reducible first | exact HB.out | apply below_alloc | apply pw_below_drewN | apply below_drew1 | refine below_set ?_ GE280.out) | exact HB.out)) hb); clear BK280; clear HB; have BK280 := n0_; have HB := n1_; clear n0_ n1_; (try clear hb); (try clear hb2); (try clear hk); (try clear hi)))
    go_ret2
    exact ⟨by first | rfl | (simp [errW_none, errW_some] <;> rfl) | (simp [*, errW_none, errW_some] <;> rfl), by repeat (first | (with_reducible first | exact HB.out | apply below_alloc | apply pw_below_drewN | apply below_drew1 | refine below_set ?_ GE280.out) | exact HB.out)⟩
end Go.Proofs.Ythfjgfldmkdlnaa.G
end

section
namespace Go.Proofs.Ythfjgfldmkdlnaa.G
open WB Go.RowKit Go.Proofs.YthfjgfldmkdlnaaW.PrintWords Go.Proofs.YthfjgfldmkdlnaaW.PrintLast Go.Proofs.YthfjgfldmkdlnaaW.PrintMore
attribute [local go_sem] max2_int min2_int max_two min_two max_three min_three max_four min_four   -- for this text's walks alone
set_option linter.unusedVariables false
set_option linter.unusedSimpArgs false
theorem fitD_of {m size : Int} {l : List S51} (h : checkW m l size = 0) : FitD l ∧ l.length ≤ 64 := by
  have h3 := may_of _ _ _ h
  have h4 := h3.len
  have h6 := h3.s2
  refine ⟨⟨by omega, fun d hd => ?_⟩, by omega⟩
  obtain ⟨i, hi, rfl⟩ := List.mem_iff_getElem.1 hd
  have h5 := (h3.bds i hi).2.2.2.2
  rw [List.getD_eq_getElem?_getD, List.getElem?_eq_getElem hi] at h5
  simp only [Option.getD_some] at h5
  omega
def waybillref23_Touch.f (l0 : List (S38)) (a1_0 : Int) (a1_1 : Int) (a1_2 : Int) (a2 : Int) (a3 : Int) (a4 : Int) (a5_0 : Int) (l5_1 : List (S51)) : Option ((List (S38)) × Int) := some (touchS l0 a1_0 a1_1 a1_2 a2 a3 a4 a5_0 l5_1)
set_option maxHeartbeats 4000000 in
set_option maxRecDepth 100000 in
theorem waybillref23_Touch.calls (A0 : Option Addr) (c0 : Nat) (l0 : List (S38)) (a1_0 : Int) (a1_1 : Int) (a1_2 : Int) (a2 : Int) (a3 : Int) (a4 : Int) (a5_0 : Int) (A5_1 : Option Addr) (c5_1 : Nat) (l5_1 : List (S51)) (r1 : List (S38)) (r2 : Int) (w : World) (hr0 : Kd.C k38 w A0 l0.length l0) (hc0 : l0.length ≤ c0) (hr5_1 : Kd.C k51 w A5_1 l5_1.length l5_1) (hc5_1 : l5_1.length ≤ c5_1) (h : waybillref23_Touch.f l0 a1_0 a1_1 a1_2 a2 a3 a4 a5_0 l5_1 = some (r1, r2)) :
    Calls Try.prog 24 #[.slice A0 l0.length c0, .agg #[.int .i64 a1_0, .int .i64 a1_1, .int .i64 a1_2], .int .i64 a2, .int .i64 a3, .int .i64 a4, .agg #[.int .i64 a5_0, .slice A5_1 l5_1.length c5_1]] w fun e w' => ∃ v0_ : Value, e = .returned (.tuple #[v0_, .int .i64 r2]) ∧ Kd.R k38 38 w' w.heap.size (fun _ => True) v0_ r1 ∧ Below w.heap.size w w' := by
  replace h := Option.some.inj h
  have HH := Aside0.mk h
  have HR := Aside0.mk hr0
  have HC := Aside0.mk hc0
  have HR5 := Aside0.mk hr5_1
  have HC5 := Aside0.mk hc5_1
  have HBW := Aside0.mk (below_alloc (below_alloc (Below.refl w.heap.size w) (.cells #[.int .i64 a1_0, .int .i64 a1_1, .int .i64 a1_2] 24)) (.cells #[.int .i64 a5_0, .slice A5_1 l5_1.length c5_1] 36))
  have BS := Aside0.mk (blk_alloc (heap_new1 w (.cells #[.int .i64 a1_0, .int .i64 a1_1, .int .i64 a1_2] 24)) (.cells #[.int .i64 a5_0, .slice A5_1 l5_1.length c5_1] 36))
  have BV := Aside0.mk (heap_new2 w (.cells #[.int .i64 a1_0, .int .i64 a1_1, .int .i64 a1_2] 24) (.cells #[.int .i64 a5_0, .slice A5_1 l5_1.length c5_1] 36))
  have hm0 : l0.length ≤ 9223372036854775807 := hr0.2.1
  have hm5 : l5_1.length ≤ 9223372036854775807 := hr5_1.2.1
  clear h hr0 hc0 hr5_1 hc5_1
  go_enter Try.func24, Try.ntmps24
  go_wp2_with fail
  go_at_call 28
  with_reducible refine (waybillref23_Check.calls A0 c0 l0 a1_0 a1_1 a1_2 a2 a3 (checkS l0 a1_0 a1_1 a1_2 a2 a3) _ (Kd.C_alloc (Kd.C_alloc HR.out _) _) HC.out rfl).mono ?_
  rintro e w1 ⟨rfl, hb⟩
  have HB1 := Aside0.mk (below_then HBW.out HBW.out.size hb)
  have BS1 := Aside0.mk (blk_below BS.out hb)
  have BV1 := Aside0.mk (blk_below BV.out hb)
  clear hb
  by_cases hc0 : checkS l0 a1_0 a1_1 a1_2 a2 a3 = 0
  · rw [hc0]
    have HM := Aside0.mk (mayS_of hc0)
    have HH1 : Aside0 ((if a4 < 0 ∨ (l0.length : Int) ≤ a4 then ([], 71) else if checkW a5_0 l5_1 a1_2 ≠ 0 then ([], 9) else (l0.set a4.toNat ⟨(l0.getD a4.toNat z38).f0, (l0.getD a4.toNat z38).f1, a3, ⟨a5_0, l5_1⟩⟩, 0)) = (r1, r2)) := ⟨by have h := HH.out; unfold touchS at h; rwa [if_neg (show ¬ checkS l0 a1_0 a1_1 a1_2 a2 a3 ≠ 0 by rw [hc0]; simp)] at h⟩
    clear hc0
    by_cases h1 : a4 < 0
    · have t2 : decide (a4 < 0) = true := decide_eq_true h1
      obtain ⟨⟨⟩⟩ : Aside0 ((([], 71) : List S38 × Int) = (r1, r2)) := ⟨by rw [← HH1.out, if_pos (.inl h1)]⟩
      clear h1
      go_wp2_with fail
      go_ret2
      exact ⟨_, rfl, Kd.R_nil _ _ _ _ _, HB1.out⟩
    · have t2 : decide (a4 < 0) = false := decide_eq_false h1
      by_cases h2 : (l0.length : Int) ≤ a4
      · have t3 : decide ((l0.length : Int) ≤ a4) = true := decide_eq_true h2
        obtain ⟨⟨⟩⟩ : Aside0 ((([], 71) : List S38 × Int) = (r1, r2)) := ⟨by rw [← HH1.out, if_pos (.inr h2)]⟩
        clear h1 h2
        go_wp2_with fail
        go_ret2
        exact ⟨_, rfl, Kd.R_nil _ _ _ _ _, HB1.out⟩
      · have t3 : decide ((l0.length : Int) ≤ a4) = false := decide_eq_false h2
        obtain ⟨k, rfl⟩ : ∃ k : Nat, a4 = (k : Int) := ⟨a4.toNat, by omega⟩
        have HH2 : Aside0 ((if checkW a5_0 l5_1 a1_2 ≠ 0 then ([], 9) else (l0.set k ⟨(l0.getD k z38).f0, (l0.getD k z38).f1, a3, ⟨a5_0, l5_1⟩⟩, 0)) = (r1, r2)) := ⟨by have h := HH1.out; rwa [if_neg (show ¬ ((k : Int) < 0 ∨ (l0.length : Int) ≤ (k : Int)) by rw [not_or]; exact ⟨h1, h2⟩), Int.toNat_natCast] at h⟩
        have hk : k < l0.length := by omega
        have y0 : w1.cell? ⟨w.heap.size, 2, none⟩ = some (.int .i64 a1_2) := (blk_cell BS1.out 2).trans rfl
        have y1 : w1.cell? ⟨w.heap.size + 1, 0, none⟩ = some (.int .i64 a5_0) := (blk_cell BV1.out 0).trans rfl
        have y2 : w1.cell? ⟨w.heap.size + 1, 1, none⟩ = some (.slice A5_1 l5_1.length c5_1) := (blk_cell BV1.out 1).trans rfl
        have t3' : decide (l0.length ≤ k) = false := decide_eq_false (by omega)
        clear h1 h2 HH1
        go_wp2_with fail
        go_at_call 40
        with_reducible refine (waybillref22_Check.calls (l5_1.length + 3) a5_0 A5_1 c5_1 l5_1 a1_2 (checkW a5_0 l5_1 a1_2) _ (Kd.C_below HR5.out HB1.out) HC5.out (srcheck_all _ _ _ hm5 _ (Nat.le_refl _))).mono ?_
        rintro e w2 ⟨rfl, hb⟩
        have HB2 := Aside0.mk (below_then HB1.out HB1.out.size hb)
        have BV2 := Aside0.mk (blk_below BV1.out hb)
        clear hb y0 y1 y2
        by_cases hcw : checkW a5_0 l5_1 a1_2 = 0
        · rw [hcw]
          obtain ⟨⟨⟩⟩ : Aside0 (((l0.set k ⟨(l0.getD k z38).f0, (l0.getD k z38).f1, a3, ⟨a5_0, l5_1⟩⟩, 0) : List S38 × Int) = (r1, r2)) := ⟨by rw [← HH2.out, if_neg (by rw [hcw]; simp)]⟩
          have HSW := Aside0.mk (fitD_of hcw)
          clear hcw
          go_wp2_with fail
          go_at_call 17
          with_reducible refine (waybillref23_Own.calls 200 A0 c0 l0 l0 _ (Kd.C_below HR.out HB2.out) HC.out (own23 l0 64 (fit_may HM.out) 200 (by have := HM.out.s; have := HM.out.len; omega))).mono ?_
          rintro e w3 ⟨v3, rfl, hr3, hb3⟩
          obtain ⟨A3, c3, rfl⟩ := Kd.R_slice hr3
          obtain ⟨g, rfl⟩ : ∃ g, A3 = some ⟨g, 0, none⟩ := by
            rcases A3 with _ | ad
            · obtain ⟨A, c, he, _, hC⟩ := Kd.R_reads hr3
              obtain ⟨ad, h1, _⟩ := hC.2.2 (by omega)
              injection he with he
              rw [h1] at he
              cases he
            · obtain ⟨g, rfl⟩ := Kd.R_head hr3
              exact ⟨g, rfl⟩
          have HR3 := Aside0.mk hr3
          have HB3 := Aside0.mk hb3
          have BV3 := Aside0.mk (blk_below BV2.out hb3)
          have y1 : w3.cell? ⟨w.heap.size + 1, 0, none⟩ = some (.int .i64 a5_0) := (blk_cell BV3.out 0).trans rfl
          have y2 : w3.cell? ⟨w.heap.size + 1, 1, none⟩ = some (.slice A5_1 l5_1.length c5_1) := (blk_cell BV3.out 1).trans rfl
          have HCD : Aside0 (waybillref22_Own.f 100 a5_0 l5_1 = some (a5_0, l5_1)) := ⟨own22 _ _ HSW.out.1 100 (by have := HSW.out.2; omega)⟩
          clear hr3 hb3
          go_wp2_with fail
          go_at_call 39
          with_reducible refine (waybillref22_Own.calls 100 a5_0 A5_1 c5_1 l5_1 a5_0 l5_1 _ (Kd.C_below (Kd.C_below HR5.out HB2.out) HB3.out) HC5.out HCD.out).mono ?_
          rintro e w4 ⟨v4, rfl, hS, hb4⟩
          have hR4 := Kd.S_R hS
          obtain ⟨A4, c4, rfl⟩ := Kd.R_slice hR4
          have RW := Aside0.mk (Kd.R_below HR3.out hb4)
          have HR4 : Aside0 (Kd.R k51 51 w4 w2.heap.size (fun q => True ∧ q ≠ g) (.slice A4 l5_1.length c4) l5_1) := ⟨Kd.R_lower (Kd.R_mono (Kd.R_bound hR4) (fun q hq => ⟨trivial, fun he => by have := Kd.R_lt HR3.out g rfl; have := hq.2.1; omega⟩)) HB3.out.size⟩
          have HB4 := Aside0.mk (below_then HB3.out HB3.out.size hb4)
          obtain ⟨cs, hz1, hz2, hz3, hz4⟩ := Kd.R_elem RW.out z38 (k : Int) (by omega) (by omega)
          simp only [Int.toNat_natCast] at hz2 hz3 hz4
          obtain ⟨v5, rfl, hM5⟩ := k38_openM hz2
          have x2 : w4.cell? ⟨g, k * 5 + 2, none⟩ = some (.int .i64 (l0.getD k z38).f2) := hz3 2 _ rfl
          have x3 : w4.cell? ⟨g, k * 5 + 3, none⟩ = some (.int .i64 (l0.getD k z38).f3.f0) := hz3 3 _ rfl
          have x4 : w4.cell? ⟨g, k * 5 + 4, none⟩ = some v5 := hz3 4 _ rfl
          have f2 : w4.frozen? ⟨g, k * 5 + 2, none⟩ = false := hz4 2
          have f3 : w4.frozen? ⟨g, k * 5 + 3, none⟩ = false := hz4 3
          have f4 : w4.frozen? ⟨g, k * 5 + 4, none⟩ = false := hz4 4
          have HZ1 := Aside0.mk hz1
          have HZ3 := Aside0.mk hz3
          clear hS hR4 hb4 hz1 hz2 hz3 hz4 hM5 y1 y2
          go_wp2_with fail
          go_ret2
          obtain ⟨hseg, hgr⟩ := Kd.R_seg RW.out (k : Int) (by omega) (by omega) (seg := [.int .i64 a3, .int .i64 a5_0, .slice A4 l5_1.length c4]) (j := 2) (x' := ⟨(l0.getD k z38).f0, (l0.getD k z38).f1, a3, ⟨a5_0, l5_1⟩⟩) (okp := fun q => True ∧ q ≠ g) HZ1.out HZ3.out (by show 2 + 3 ≤ 5; omega) (k38_mkM _ _ _ (⟨(l0.getD k z38).f0, (l0.getD k z38).f1, a3, ⟨a5_0, l5_1⟩⟩ : S38) HR4.out) (fun _ h => h)
          have hbg : w.heap.size ≤ g := Nat.le_trans HB2.out.size (Kd.R_base RW.out g rfl)
          exact ⟨_, rfl, Kd.R_lower hseg HB2.out.size, below_set (below_set (below_set (below_then HB2.out HB2.out.size HB4.out) hbg) hbg) hbg⟩
        · have t4 : (checkW a5_0 l5_1 a1_2 == 0) = false := by simpa using hcw
          obtain ⟨⟨⟩⟩ : Aside0 ((([], 9) : List S38 × Int) = (r1, r2)) := ⟨by rw [← HH2.out, if_pos hcw]⟩
          clear hcw
          go_wp2_with fail
          go_ret2
          exact ⟨_, rfl, Kd.R_nil _ _ _ _ _, HB2.out⟩
  · have t1 : (checkS l0 a1_0 a1_1 a1_2 a2 a3 == 0) = false := by simpa using hc0
    obtain ⟨⟨⟩⟩ : Aside0 ((([], checkS l0 a1_0 a1_1 a1_2 a2 a3) : List S38 × Int) = (r1, r2)) := ⟨by rw [← HH.out]; unfold touchS; rw [if_pos hc0]⟩
    go_wp2_with fail
    go_ret2
    exact ⟨_, rfl, Kd.R_nil _ _ _ _ _, HB1.out⟩
end Go.Proofs.Ythfjgfldmkdlnaa.G
end

section
namespace Go.Proofs.Ythfjgfldmkdlnaa.G
open WB Go.RowKit Go.Proofs.YthfjgfldmkdlnaaW.PrintWords Go.Proofs.YthfjgfldmkdlnaaW.PrintLast Go.Proofs.YthfjgfldmkdlnaaW.PrintMore
attribute [local go_sem] max2_int min2_int max_two min_two max_three min_three max_four min_four   -- for this text's walks alone
set_option linter.unusedVariables false
set_option linter.unusedSimpArgs false
def slices_Index_int_int.l0 : Nat → List Int → Int → Int → Int → Option (Int)
  | 0, _, _, _, _ => none
  | k + 1, x0, x1, x7, x8 => if x8 < x7 then (if 0 ≤ x8 then (if x8 < (x0.length : Int) then (if x1 = (rd x0 x8) then (some x8) else (slices_Index_int_int.l0 k x0 x1 x7 (wrap64 (x8 + 1)))) else (none)) else (none)) else (some (-1))
def slices_Index_int_int.f (k : Nat) (l0 : List Int) (a1 : Int) : Option (Int) := slices_Index_int_int.l0 k l0 a1 (l0.length : Int) 0
theorem slices_Index_int_int.mono_l : ∀ k, (∀ y0 y1 y2 y3, LeO (slices_Index_int_int.l0 k y0 y1 y2 y3) (slices_Index_int_int.l0 (k + 1) y0 y1 y2 y3))
  | 0 => fun _ _ _ _ r h => by simp [slices_Index_int_int.l0] at h
  | k + 1 => by
    have ih0 := slices_Index_int_int.mono_l k
    · intro y0 y1 y2 y3
      unfold slices_Index_int_int.l0
      repeat' first
      | (with_reducible exact ih0 _ _ _ _)
      | (with_reducible exact LeO.refl _)
      | (with_reducible exact LeO.none _)
      | (with_reducible refine LeO.ite ?_ ?_)
      | (with_reducible refine LeO.bind ?_ (fun _ => ?_))
      | exact ih0 _ _ _ _
      | exact LeO.none _
      | refine LeO.ite ?_ ?_
      | refine LeO.bind ?_ (fun _ => ?_)
theorem slices_Index_int_int.mono : ∀ a0 a1 k, LeO (slices_Index_int_int.f k a0 a1) (slices_Index_int_int.f (k + 1) a0 a1) := by
  intro a0 a1 k
  have ih0 := slices_Index_int_int.mono_l k
  unfold slices_Index_int_int.f
  repeat' first
      | (with_reducible exact ih0 _ _ _ _)
      | (with_reducible exact LeO.refl _)
      | (with_reducible exact LeO.none _)
      | (with_reducible refine LeO.ite ?_ ?_)
      | (with_reducible refine LeO.bind ?_ (fun _ => ?_))
      | exact ih0 _ _ _ _
      | exact LeO.none _
      | refine LeO.ite ?_ ?_
      | refine LeO.bind ?_ (fun _ => ?_)
set_option maxHeartbeats 8000000 in
set_option maxRecDepth 100000 in
theorem slices_Index_int_int.calls (k : Nat) (A0 : Option Addr) (c0 : Nat) (l0 : List Int) (a1 : Int) (r : Int) (w : World) (hr0 : Kd.C (Kd.int .i64) w A0 l0.length l0) (hc0 : l0.length ≤ c0) (h : slices_Index_int_int.f k l0 a1 = some r) :
    Calls Try.prog 53 #[.slice A0 l0.length c0, .int .i64 a1] w fun e w' => e = .returned (.int .i64 r) ∧ Drawn0 w w' := by
  have HR0 := Aside0.mk hr0
  have HC0 := Aside0.mk hc0
  clear hr0 hc0
  have H : (slices_Index_int_int.l0 k l0 a1 (l0.length : Int) 0) = some r := h
  clear h
  have H' := Aside0.mk H
  clear H
  go_enter Try.func53, Try.ntmps53
  go_wp2
  go_loopg [8] k (fun kq v8 w' => ∃ (x8_1 : Int), v8 = .int .i64 x8_1 ∧ Aside0 (slices_Index_int_int.l0 kq l0 a1 (l0.length : Int) x8_1 = some r) ∧ Aside0 (kq ≤ k) ∧ Drawn0 w w')
  case atStart => exact ⟨(0), (by first | rfl | (simp; done) | (simp [*]; done)), H', ⟨Nat.le_refl _⟩, by repeat (first | exact Drawn0.refl _ | apply Drawn0.step)⟩
  case round =>
    clear H'
    try clear p2
    obtain ⟨x8_1, rfl, HA, HK1, ⟨m1, rfl⟩⟩ := hrel
    cases gk with
    | zero => exact absurd HA.out (by simp [slices_Index_int_int.l0])
    | succ k1 =>
      have H := HA.out
      clear HA
      simp only [slices_Index_int_int.l0] at H
      by_cases c3 : x8_1 < (l0.length : Int)
      · rw [if_pos c3] at H
        have c3b0 : decide (x8_1 < (l0.length : Int)) = true := decide_eq_true c3
        clear c3
        by_cases c4 : 0 ≤ x8_1
        · rw [if_pos c4] at H
          have c4b0 : decide (0 ≤ x8_1) = true := decide_eq_true c4
          clear c4
          by_cases c5 : x8_1 < (l0.length : Int)
          · rw [if_pos c5] at H
            have c5b0 : decide (x8_1 < (l0.length : Int)) = true := decide_eq_true c5
            clear c5
            by_cases c6 : a1 = (rd l0 x8_1)
            · rw [if_pos c6] at H
              have c6b0 : (a1 == (rd l0 x8_1)) = true := beq_iff_eq.mpr c6
              have c6b1 : (a1 != (rd l0 x8_1)) = false := bne_eq_false_iff_eq.mpr c6
              clear c6
              obtain rfl := Option.some.inj H
              simp only [Option.some.injEq, Prod.mk.injEq] at H
              obtain ⟨rfl⟩ := H
              have p284 : 0 ≤ (x8_1 : Int) := of_decide_eq_true (by first | (with_reducible assumption) | assumption)
              have q284 : x8_1 < (l0.length : Int) := of_decide_eq_true (by first | (with_reducible assumption) | assumption)
              obtain ⟨ad284, e284, hx284_0⟩ := Kd.at_int HR0.out x8_1 p284 q284
              cases e284
              replace p284 := eq_true p284
              replace q284 := eq_true q284
              go_wp2
              go_ret
              exact ⟨by first | rfl | (simp; done) | (simp [*]; done), by repeat (first | exact Drawn0.refl _ | apply Drawn0.step)⟩
            · rw [if_neg c6] at H
              have c6b0 : (a1 == (rd l0 x8_1)) = false := beq_eq_false_iff_ne.mpr c6
              have c6b1 : (a1 != (rd l0 x8_1)) = true := bne_iff_ne.mpr c6
              have H' := Aside0.mk H
              clear H
              have p284 : 0 ≤ (x8_1 : Int) := of_decide_eq_true (by first | (with_reducible assumption) | assumption)
              have q284 : x8_1 < (l0.length : Int) := of_decide_eq_true (by first | (with_reducible assumption) | assumption)
              obtain ⟨ad284, e284, hx284_0⟩ := Kd.at_int HR0.out x8_1 p284 q284
              cases e284
              replace p284 := eq_true p284
              replace q284 := eq_true q284
              go_wp2
              go_roundg k1
              case measure => have := HK1.out; omega
              case rel => exact ⟨(wrap64 (x8_1 + 1)), (by first | rfl | (simp; done) | (simp [*]; done)), H', ⟨by have := HK1.out; omega⟩, by repeat (first | exact Drawn0.refl _ | apply Drawn0.step)⟩
          · rw [if_neg c5] at H
            exact absurd H (by simp)
        · rw [if_neg c4] at H
          exact absurd H (by simp)
      · rw [if_neg c3] at H
        have c3b0 : decide (x8_1 < (l0.length : Int)) = false := decide_eq_false c3
        clear c3
        obtain rfl := Option.some.inj H
        simp only [Option.some.injEq, Prod.mk.injEq] at H
        obtain ⟨rfl⟩ := H
        go_wp2
        go_ret
        exact ⟨by first | rfl | (simp; done) | (simp [*]; done), by repeat (first | exact Drawn0.refl _ | apply Drawn0.step)⟩
end Go.Proofs.Ythfjgfldmkdlnaa.G
end

section
namespace Go.Proofs.Ythfjgfldmkdlnaa.G
open WB Go.RowKit Go.Proofs.YthfjgfldmkdlnaaW.PrintWords Go.Proofs.YthfjgfldmkdlnaaW.PrintLast Go.Proofs.YthfjgfldmkdlnaaW.PrintMore
attribute [local go_sem] max2_int min2_int max_two min_two max_three min_three max_four min_four   -- for this text's walks alone
set_option linter.unusedVariables false
set_option linter.unusedSimpArgs false
def slices_Contains_int_int.f (k : Nat) (l0 : List Int) (a1 : Int) : Option (Bool) := (slices_Index_int_int.f k l0 a1).bind fun t285 => (some (decide (t285 ≥ 0)))
theorem slices_Contains_int_int.mono : ∀ a0 a1 k, LeO (slices_Contains_int_int.f k a0 a1) (slices_Contains_int_int.f (k + 1) a0 a1) := by
  intro a0 a1 k
  unfold slices_Contains_int_int.f
  repeat' first
      | (with_reducible exact slices_Index_int_int.mono _ _ _)
      | (with_reducible exact LeO.refl _)
      | (with_reducible exact LeO.none _)
      | (with_reducible refine LeO.ite ?_ ?_)
      | (with_reducible refine LeO.bind ?_ (fun _ => ?_))
      | exact slices_Index_int_int.mono _ _ _
      | exact LeO.none _
      | refine LeO.ite ?_ ?_
      | refine LeO.bind ?_ (fun _ => ?_)
set_option maxHeartbeats 8000000 in
set_option maxRecDepth 100000 in
theorem slices_Contains_int_int.calls (k : Nat) (A0 : Option Addr) (c0 : Nat) (l0 : List Int) (a1 : Int) (r : Bool) (w : World) (hr0 : Kd.C (Kd.int .i64) w A0 l0.length l0) (hc0 : l0.length ≤ c0) (h : slices_Contains_int_int.f k l0 a1 = some r) :
    Calls Try.prog 41 #[.slice A0 l0.length c0, .int .i64 a1] w fun e w' => e = .returned (.bool r) ∧ Drawn0 w w' := by
  have HR0 := Aside0.mk hr0
  have HC0 := Aside0.mk hc0
  clear hr0 hc0
  have H : ((slices_Index_int_int.f k l0 a1).bind fun t285 => (some (decide (t285 ≥ 0)))) = some r := h
  clear h
  replace H := Option.bind_eq_some_iff.mp H
  obtain ⟨t285, A30, H⟩ := H
  replace H : (some (decide (t285 ≥ 0))) = some r := H
  have A3 := Aside0.mk A30
  clear A30
  obtain rfl := Option.some.inj H
  simp only [Option.some.injEq, Prod.mk.injEq] at H
  obtain ⟨rfl⟩ := H
  go_enter Try.func41, Try.ntmps41
  go_wp2_with (first | ((with_reducible refine gate_callee (f := 53) rfl ?_); refine goesL_ (some 7) rfl rfl Try.func53 (by kernel_rfl) rfl #[.slice A0 l0.length c0, .int .i64 a1] rfl (by (try simp only [List.map_toArray, List.map_cons, List.map_nil]); first | done | rfl | (simp only [List.length_drop, List.length_take]; rfl)) ?_; (with_reducible refine (slices_Index_int_int.calls k _ _ l0 a1 t285 _ ?side1 ?side2 A3.out).mono ?_); (case side1 => repeat (first | exact HR0.out | (with_reducible refine Kd.C_alloc ?_ _) | (with_reducible refine Kd.C_drewN ?_ _) | (with_reducible refine Kd.C_drew ?_))); (case side2 => exact HC0.out); rintro e w' ⟨rfl, ⟨nd, rfl⟩⟩; refine ⟨_, rfl, ?_⟩))
  go_ret
  exact ⟨by first | rfl | (simp; done) | (simp [*]; done), by repeat (first | exact Drawn0.refl _ | apply Drawn0.step)⟩
end Go.Proofs.Ythfjgfldmkdlnaa.G
end
