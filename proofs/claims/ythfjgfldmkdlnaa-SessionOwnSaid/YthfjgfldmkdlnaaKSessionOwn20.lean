/- SessionOwn: texts of this claim, packed: what the kit's print has written for it and own texts, without what its proof does not reach. -/
import Derived.Test.YthfjgfldmkdlnaaKSessionOwn11
import Derived.Test.YthfjgfldmkdlnaaKSessionOwn15
import Derived.Test.YthfjgfldmkdlnaaKSessionOwn16
import Derived.Test.YthfjgfldmkdlnaaKSessionOwn19
set_option linter.unusedVariables false
set_option linter.unusedSimpArgs false
set_option linter.unusedSectionVars false
section
namespace Go.Proofs.Ythfjgfldmkdlnaa.G
open WB Go.RowKit Go.Proofs.YthfjgfldmkdlnaaW.PrintWords Go.Proofs.YthfjgfldmkdlnaaW.PrintLast Go.Proofs.YthfjgfldmkdlnaaW.PrintMore
attribute [local go_sem] max2_int min2_int max_two min_two max_three min_three max_four min_four   -- for this text's walks alone
set_option linter.unusedVariables false
set_option linter.unusedSimpArgs false
def waybillref23_Open.j0 : Nat → List (S38) → Int → Int → Int → Bool → Int → Int → Int → Option ((List (S38)) × Int × Int)
  | 0, _, _, _, _, _, _, _, _ => none
  | k + 1, x0, x2, x3, x4, x23, x230000, x230001, x230002 => if x23 = true then (some (([] : List (S38)), 0, 4)) else (if (x0.length : Int) = x230000 then (some (([] : List (S38)), 0, 72)) else (if x2 = 1073741824 then (some (([] : List (S38)), 0, 72)) else ((waybillref23_Own.f k x0).bind fun t231 => (if t231.length < 2513169434916 then (some ((t231 ++ [(⟨x2, x4, x3, (⟨1, ([] : List (S51))⟩ : S36)⟩ : S38)]), wrap64 (x2 + 1), 0)) else (none)))))
def waybillref23_Open.f (k : Nat) (l0 : List (S38)) (a1_0 : Int) (a1_1 : Int) (a1_2 : Int) (a2 : Int) (a3 : Int) (a4 : Int) : Option ((List (S38)) × Int × Int) := (waybillref23_Check.f l0 a1_0 a1_1 a1_2 a2 a3).bind fun t230 => (if t230 = 0 then (if a4 < 0 then (waybillref23_Open.j0 k l0 a2 a3 a4 true a1_0 a1_1 a1_2) else (waybillref23_Open.j0 k l0 a2 a3 a4 (decide (a4 > 2147483647)) a1_0 a1_1 a1_2)) else (some (([] : List (S38)), 0, t230)))
theorem waybillref23_Open.mono_l : ∀ k, (∀ y0 y1 y2 y3 y4 y5 y6 y7, LeO (waybillref23_Open.j0 k y0 y1 y2 y3 y4 y5 y6 y7) (waybillref23_Open.j0 (k + 1) y0 y1 y2 y3 y4 y5 y6 y7))
  | 0 => fun _ _ _ _ _ _ _ _ r h => by simp [waybillref23_Open.j0] at h
  | k + 1 => by
    have ih0 := waybillref23_Open.mono_l k
    · intro y0 y1 y2 y3 y4 y5 y6 y7
      unfold waybillref23_Open.j0
      repeat' first
      | (with_reducible exact ih0 _ _ _ _ _ _ _ _)
      | (with_reducible exact waybillref23_Own.mono _ _)
      | (with_reducible exact LeO.refl _)
      | (with_reducible exact LeO.none _)
      | (with_reducible refine LeO.ite ?_ ?_)
      | (with_reducible refine LeO.bind ?_ (fun _ => ?_))
      | exact ih0 _ _ _ _ _ _ _ _
      | exact waybillref23_Own.mono _ _
      | exact LeO.none _
      | refine LeO.ite ?_ ?_
      | refine LeO.bind ?_ (fun _ => ?_)
theorem waybillref23_Open.mono : ∀ a0 a1 a2 a3 a4 a5 a6 k, LeO (waybillref23_Open.f k a0 a1 a2 a3 a4 a5 a6) (waybillref23_Open.f (k + 1) a0 a1 a2 a3 a4 a5 a6) := by
  intro a0 a1 a2 a3 a4 a5 a6 k
  have ih0 := waybillref23_Open.mono_l k
  unfold waybillref23_Open.f
  repeat' first
      | (with_reducible exact ih0 _ _ _ _ _ _ _ _)
      | (with_reducible exact waybillref23_Own.mono _ _)
      | (with_reducible exact LeO.refl _)
      | (with_reducible exact LeO.none _)
      | (with_reducible refine LeO.ite ?_ ?_)
      | (with_reducible refine LeO.bind ?_ (fun _ => ?_))
      | exact ih0 _ _ _ _ _ _ _ _
      | exact waybillref23_Own.mono _ _
      | exact LeO.none _
      | refine LeO.ite ?_ ?_
      | refine LeO.bind ?_ (fun _ => ?_)
set_option maxHeartbeats 8000000 in
set_option maxRecDepth 100000 in
theorem waybillref23_Open.calls (k : Nat) (A0 : Option Addr) (c0 : Nat) (l0 : List (S38)) (a1_0 : Int) (a1_1 : Int) (a1_2 : Int) (a2 : Int) (a3 : Int) (a4 : Int) (r1 : List (S38)) (r2 : Int) (r3 : Int) (w : World) (hr0 : Kd.C k38 w A0 l0.length l0) (hc0 : l0.length ≤ c0) (h : waybillref23_Open.f k l0 a1_0 a1_1 a1_2 a2 a3 a4 = some (r1, r2, r3)) :
    Calls Try.prog 19 #[.slice A0 l0.length c0, .agg #[.int .i64 a1_0, .int .i64 a1_1, .int .i64 a1_2], .int .i64 a2, .int .i64 a3, .int .i64 a4] w fun e w' => ∃ v0_ : Value, e = .returned (.tuple #[v0_, .int .i64 r2, .int .i64 r3]) ∧ Kd.R k38 38 w' w.heap.size (fun _ => True) v0_ r1 ∧ Below w.heap.size w w' := by
  have hu24 := Try.underlying24
  have hu36 := Try.underlying36
  have hu38 := Try.underlying38
  have HR0 := Aside0.mk hr0
  have HC0 := Aside0.mk hc0
  clear hr0 hc0
  have HB := Aside0.mk (Below.refl w.heap.size w)
  have H : ((waybillref23_Check.f l0 a1_0 a1_1 a1_2 a2 a3).bind fun t230 => (if t230 = 0 then (if a4 < 0 then (waybillref23_Open.j0 k l0 a2 a3 a4 true a1_0 a1_1 a1_2) else (waybillref23_Open.j0 k l0 a2 a3 a4 (decide (a4 > 2147483647)) a1_0 a1_1 a1_2)) else (some (([] : List (S38)), 0, t230)))) = some (r1, r2, r3) := h
  clear h
  replace H := Option.bind_eq_some_iff.mp H
  obtain ⟨t230, A60, H⟩ := H
  replace H : (if t230 = 0 then (if a4 < 0 then (waybillref23_Open.j0 k l0 a2 a3 a4 true a1_0 a1_1 a1_2) else (waybillref23_Open.j0 k l0 a2 a3 a4 (decide (a4 > 2147483647)) a1_0 a1_1 a1_2)) else (some (([] : List (S38)), 0, t230))) = some (r1, r2, r3) := H
  have A6 := Aside0.mk A60
  clear A60
  by_cases c7 : t230 = 0
  · rw [if_pos c7] at H
    have c7b0 : (t230 == 0) = true := beq_iff_eq.mpr c7
    have c7b1 : (t230 != 0) = false := bne_eq_false_iff_eq.mpr c7
    clear c7
    have HC8 := Aside0.mk H
    clear H
    go_enter Try.func19, Try.ntmps19
    go_upto_region 4 with (first | ((with_reducible refine gate_dst (N := 6) rfl ?_); refine box_event ?hg (N := 6) ?hd (cs := #[.int .i64 a1_0, .int .i64 a1_1, .int .i64 a1_2]) (t := 24) ?hr ?_; (case hd => rfl); (case hg => rfl); (case hr => first | (go_simp; done) | (go_simp; rfl)); intro gb229 hg w9 hbox hb; have n0_ := Aside0.mk (below_step (by repeat (first | (with_reducible first | exact HB.out | apply below_alloc | apply pw_below_drewN | apply below_drew1) | exact HB.out)) hb); have n1_ := Aside0.mk (hbox); have n2_ := Aside0.mk ((by rw [hg]; exact (below_size (by repeat (first | (with_reducible first | exact HB.out | apply below_alloc | apply pw_below_drewN | apply below_drew1) | exact HB.out))) : w.heap.size ≤ gb229)); have n3_ := Aside0.mk ((by rw [hg]; exact (below_size (by repeat (first | (with_reducible first | exact HB.out | apply below_alloc | apply pw_below_drewN | apply below_drew1) | exact HB.out))) : w.heap.size ≤ gb229)); clear HB; have HB := n0_; have BK229 := n1_; have GW229 := n2_; have GE229 := n3_; clear n0_ n1_ n2_ n3_; clear hb hbox hg; have hcz10_0 : w9.cell? ⟨gb229, 0, none⟩ = some (.int .i64 a1_0) := (blk_cell BK229.out 0).trans rfl; have hcz10_1 : w9.cell? ⟨gb229, 1, none⟩ = some (.int .i64 a1_1) := (blk_cell BK229.out 1).trans rfl; have hcz10_2 : w9.cell? ⟨gb229, 2, none⟩ = some (.int .i64 a1_2) := (blk_cell BK229.out 2).trans rfl; have hfz10_0 := blk_frozen BK229.out 0; have hfz10_1 := blk_frozen BK229.out 1; have hfz10_2 := blk_frozen BK229.out 2) | ((with_reducible refine gate_callee (f := 28) rfl ?_); refine goesL_ (some 18) rfl rfl Try.func28 (by kernel_rfl) rfl #[.slice A0 l0.length c0, .agg #[.int .i64 a1_0, .int .i64 a1_1, .int .i64 a1_2], .int .i64 a2, .int .i64 a3] rfl (by (try simp only [List.map_toArray, List.map_cons, List.map_nil]); first | done | rfl | (simp only [List.length_drop, List.length_take]; rfl)) ?_; (with_reducible refine (waybillref23_Check.calls _ _ l0 a1_0 a1_1 a1_2 a2 a3 t230 _ ?side1 ?side2 A6.out).mono ?_); (case side1 => repeat (first | exact (Kd.C_below HR0.out HB.out) | (with_reducible refine Kd.C_alloc ?_ _) | (with_reducible refine Kd.C_drewN ?_ _) | (with_reducible refine Kd.C_drew ?_))); (case side2 => exact HC0.out); rintro e w11 ⟨rfl, hb⟩; refine ⟨_, rfl, ?_⟩; have n0_ := Aside0.mk (blk_below (g := gb229) (o := .cells #[.int .i64 a1_0, .int .i64 a1_1, .int .i64 a1_2] 24 (0, 0)) (by (with_reducible repeat (first | refine blk_drewN ?_ _ | refine blk_drew ?_ | refine blk_alloc ?_ _)); exact BK229.out) hb); have n1_ := Aside0.mk (below_step (by repeat (first | (with_reducible first | exact HB.out | apply below_alloc | apply pw_below_drewN | apply below_drew1 | refine below_set ?_ GE229.out) | exact HB.out)) hb); clear BK229; clear HB; have BK229 := n0_; have HB := n1_; clear n0_ n1_; (try clear hb); (try clear hb2); (try clear hk); (try clear hi)))
    (try simp only [Act.put, List.setIfInBounds_toArray, List.set_cons_zero, List.set_cons_succ])
    go_cut [23] (fun v23 wc => ∃ (kq : Nat) (x23_7 : Bool), v23 = .bool x23_7 ∧ Aside0 (waybillref23_Open.j0 kq l0 a2 a3 a4 x23_7 a1_0 a1_1 a1_2 = some (r1, r2, r3)) ∧ Aside0 (kq ≤ k) ∧ Aside0 (wc.heap[gb229]? = some (.cells #[.int .i64 a1_0, .int .i64 a1_1, .int .i64 a1_2] 24 (0, 0))) ∧ Aside0 (Below w.heap.size w wc))
    case first =>
      have H := HC8.out
      clear HC8
      by_cases c12 : a4 < 0
      · rw [if_pos c12] at H
        have c12b0 : decide (a4 < 0) = true := decide_eq_true c12
        clear c12
        (first | rw [c12b0] | (simp only [i64_w, i32_w]; rw [c12b0]) | skip)
        have H' := Aside0.mk H
        clear H
        go_wp2
        go_meet
        case rel => exact ⟨_, (true), (by first | rfl | (simp; done) | (simp [*]; done)), H', ⟨by first | omega | exact Nat.le_refl _⟩, ⟨by (with_reducible repeat (first | refine blk_drewN ?_ _ | refine blk_drew ?_ | refine blk_alloc ?_ _)); exact BK229.out⟩, ⟨by repeat (first | (with_reducible first | exact HB.out | apply below_alloc | apply pw_below_drewN | apply below_drew1 | refine below_set ?_ GE229.out) | exact HB.out)⟩⟩
      · rw [if_neg c12] at H
        have c12b0 : decide (a4 < 0) = false := decide_eq_false c12
        clear c12
        (first | rw [c12b0] | (simp only [i64_w, i32_w]; rw [c12b0]) | skip)
        have H' := Aside0.mk H
        clear H
        go_wp2
        go_meet
        case rel => exact ⟨_, (decide (a4 > 2147483647)), (by first | rfl | (simp; done) | (simp [*]; done)), H', ⟨by first | omega | exact Nat.le_refl _⟩, ⟨by (with_reducible repeat (first | refine blk_drewN ?_ _ | refine blk_drew ?_ | refine blk_alloc ?_ _)); exact BK229.out⟩, ⟨by repeat (first | (with_reducible first | exact HB.out | apply below_alloc | apply pw_below_drewN | apply below_drew1 | refine below_set ?_ GE229.out) | exact HB.out)⟩⟩
    case rest =>
      clear HC8
      try clear c1
      try clear c2
      try clear p2
      try clear c7
      try clear c7b0
      try clear c7b1
      try clear c12
      try clear c12b0
      try clear hcz10_0
      try clear hcz10_1
      try clear hcz10_2
      try clear hfz10_0
      try clear hfz10_1
      try clear hfz10_2
      obtain ⟨kq, x23_7, rfl, HA, HJ7, BK229, HB⟩ := hcut
      cases kq with
      | zero => exact absurd HA.out (by simp [waybillref23_Open.j0])
      | succ kj7 =>
        have H := HA.out
        clear HA
        simp only [waybillref23_Open.j0] at H
        by_cases c13 : x23_7 = true
        · subst c13
          have H1 : (some (([] : List (S38)), 0, 4)) = some (r1, r2, r3) := by rw [if_pos rfl] at H; exact H
          clear H
          have H := H1
          clear H1
          simp only [Option.some.injEq, Prod.mk.injEq] at H
          obtain ⟨rfl, rfl, rfl⟩ := H
          go_wp2
          go_ret3
          exact ⟨_, by first | rfl | (simp [errW_none, errW_some] <;> rfl) | (simp [*, errW_none, errW_some] <;> rfl), by first | exact Kd.R_nil _ _ _ _ _ | exact Kd.N_nil _ _ _ _ _ | exact Kd.V_nil _ _ _ _ _ | exact Kd.Q_nil _ _ _ _ _ | exact Kd.S_nil _ _ _ _ _, by repeat (first | (with_reducible first | exact HB.out | apply below_alloc | apply pw_below_drewN | apply below_drew1 | refine below_set ?_ GE229.out) | exact HB.out)⟩
        · replace c13 := Bool.eq_false_iff.mpr c13
          subst c13
          have H1 : (if (l0.length : Int) = a1_0 then (some (([] : List (S38)), 0, 72)) else (if a2 = 1073741824 then (some (([] : List (S38)), 0, 72)) else ((waybillref23_Own.f kj7 l0).bind fun t231 => (if t231.length < 2513169434916 then (some ((t231 ++ [(⟨a2, a4, a3, (⟨1, ([] : List (S51))⟩ : S36)⟩ : S38)]), wrap64 (a2 + 1), 0)) else (none))))) = some (r1, r2, r3) := by rw [if_neg (show ¬ (false = true) by decide)] at H; exact H
          clear H
          have H := H1
          clear H1
          by_cases c14 : (l0.length : Int) = a1_0
          · rw [if_pos c14] at H
            have c14b0 : ((l0.length : Int) == a1_0) = true := beq_iff_eq.mpr c14
            have c14b1 : ((l0.length : Int) != a1_0) = false := bne_eq_false_iff_eq.mpr c14
            clear c14
            simp only [Option.some.injEq, Prod.mk.injEq] at H
            obtain ⟨rfl, rfl, rfl⟩ := H
            have hcz15_0 : wc.cell? ⟨gb229, 0, none⟩ = some (.int .i64 a1_0) := (blk_cell BK229.out 0).trans rfl
            have hcz15_1 : wc.cell? ⟨gb229, 1, none⟩ = some (.int .i64 a1_1) := (blk_cell BK229.out 1).trans rfl
            have hcz15_2 : wc.cell? ⟨gb229, 2, none⟩ = some (.int .i64 a1_2) := (blk_cell BK229.out 2).trans rfl
            have hfz15_0 := blk_frozen BK229.out 0
            have hfz15_1 := blk_frozen BK229.out 1
            have hfz15_2 := blk_frozen BK229.out 2
            go_wp2
            go_ret3
            exact ⟨_, by first | rfl | (simp [errW_none, errW_some] <;> rfl) | (simp [*, errW_none, errW_some] <;> rfl), by first | exact Kd.R_nil _ _ _ _ _ | exact Kd.N_nil _ _ _ _ _ | exact Kd.V_nil _ _ _ _ _ | exact Kd.Q_nil _ _ _ _ _ | exact Kd.S_nil _ _ _ _ _, by repeat (first | (with_reducible first | exact HB.out | apply below_alloc | apply pw_below_drewN | apply below_drew1 | refine below_set ?_ GE229.out) | exact HB.out)⟩
          · rw [if_neg c14] at H
            have c14b0 : ((l0.length : Int) == a1_0) = false := beq_eq_false_iff_ne.mpr c14
            have c14b1 : ((l0.length : Int) != a1_0) = true := bne_iff_ne.mpr c14
            by_cases c16 : a2 = 1073741824
            · rw [if_pos c16] at H
              have c16b0 : (a2 == 1073741824) = true := beq_iff_eq.mpr c16
              have c16b1 : (a2 != 1073741824) = false := bne_eq_false_iff_eq.mpr c16
              clear c16
              simp only [Option.some.injEq, Prod.mk.injEq] at H
              obtain ⟨rfl, rfl, rfl⟩ := H
              have hcz17_0 : wc.cell? ⟨gb229, 0, none⟩ = some (.int .i64 a1_0) := (blk_cell BK229.out 0).trans rfl
              have hcz17_1 : wc.cell? ⟨gb229, 1, none⟩ = some (.int .i64 a1_1) := (blk_cell BK229.out 1).trans rfl
              have hcz17_2 : wc.cell? ⟨gb229, 2, none⟩ = some (.int .i64 a1_2) := (blk_cell BK229.out 2).trans rfl
              have hfz17_0 := blk_frozen BK229.out 0
              have hfz17_1 := blk_frozen BK229.out 1
              have hfz17_2 := blk_frozen BK229.out 2
              go_wp2
              go_ret3
              exact ⟨_, by first | rfl | (simp [errW_none, errW_some] <;> rfl) | (simp [*, errW_none, errW_some] <;> rfl), by first | exact Kd.R_nil _ _ _ _ _ | exact Kd.N_nil _ _ _ _ _ | exact Kd.V_nil _ _ _ _ _ | exact Kd.Q_nil _ _ _ _ _ | exact Kd.S_nil _ _ _ _ _, by repeat (first | (with_reducible first | exact HB.out | apply below_alloc | apply pw_below_drewN | apply below_drew1 | refine below_set ?_ GE229.out) | exact HB.out)⟩
            · rw [if_neg c16] at H
              have c16b0 : (a2 == 1073741824) = false := beq_eq_false_iff_ne.mpr c16
              have c16b1 : (a2 != 1073741824) = true := bne_iff_ne.mpr c16
              replace H := Option.bind_eq_some_iff.mp H
              obtain ⟨t231, A180, H⟩ := H
              replace H : (if t231.length < 2513169434916 then (some ((t231 ++ [(⟨a2, a4, a3, (⟨1, ([] : List (S51))⟩ : S36)⟩ : S38)]), wrap64 (a2 + 1), 0)) else (none)) = some (r1, r2, r3) := H
              have A18 := Aside0.mk A180
              clear A180
              by_cases c19 : t231.length < 2513169434916
              · rw [if_pos c19] at H
                have LMc19 := Aside0.mk c19
                clear c19
                obtain ⟨y234, hy234⟩ : ∃ y_ : List (S38), y_ = (t231 ++ [(⟨a2, a4, a3, (⟨1, ([] : List (S51))⟩ : S36)⟩ : S38)]) := ⟨_, rfl⟩
                replace H : (some (y234, wrap64 (a2 + 1), 0)) = some (r1, r2, r3) := by first | (rw [hy234]; with_reducible exact H) | (have H2_ := (Option.bind_some _ _).symm.trans H; rw [hy234]; with_reducible exact H2_) | (have H2_ := (Option.bind_some _ _).symm.trans H; with_reducible exact H2_) | with_reducible exact H | (rw [hy234]; exact H) | exact H
                have Ny234 := Aside0.mk hy234
                clear hy234
                simp only [Option.some.injEq, Prod.mk.injEq] at H
                obtain ⟨rfl, rfl, rfl⟩ := H
                have hcz20_0 : wc.cell? ⟨gb229, 0, none⟩ = some (.int .i64 a1_0) := (blk_cell BK229.out 0).trans rfl
                have hcz20_1 : wc.cell? ⟨gb229, 1, none⟩ = some (.int .i64 a1_1) := (blk_cell BK229.out 1).trans rfl
                have hcz20_2 : wc.cell? ⟨gb229, 2, none⟩ = some (.int .i64 a1_2) := (blk_cell BK229.out 2).trans rfl
                have hfz20_0 := blk_frozen BK229.out 0
                have hfz20_1 := blk_frozen BK229.out 1
                have hfz20_2 := blk_frozen BK229.out 2
                go_wp2_with (first | ((with_reducible refine gate_callee (f := 17) rfl ?_); refine goesL_ (some 41) rfl rfl Try.func17 (by kernel_rfl) rfl #[.slice A0 l0.length c0] rfl (by (try simp only [List.map_toArray, List.map_cons, List.map_nil]); first | done | rfl | (simp only [List.length_drop, List.length_take]; rfl)) ?_; (with_reducible refine (waybillref23_Own.calls kj7 _ _ l0 t231 _ ?side1 ?side2 A18.out).mono ?_); (case side1 => repeat (first | exact (Kd.C_below HR0.out HB.out) | (with_reducible refine Kd.C_alloc ?_ _) | (with_reducible refine Kd.C_drewN ?_ _) | (with_reducible refine Kd.C_drew ?_))); (case side2 => exact HC0.out); rintro e w21 ⟨v232, rfl, ho0, hb⟩; refine ⟨_, rfl, ?_⟩; have n0_ := Aside0.mk (Kd.R_lower ho0 (below_size (by repeat (first | (with_reducible first | exact HB.out | apply below_alloc | apply pw_below_drewN | apply below_drew1 | refine below_set ?_ GE229.out) | exact HB.out)))); have n1_ := Aside0.mk (blk_below (g := gb229) (o := .cells #[.int .i64 a1_0, .int .i64 a1_1, .int .i64 a1_2] 24 (0, 0)) (by (with_reducible repeat (first | refine blk_drewN ?_ _ | refine blk_drew ?_ | refine blk_alloc ?_ _)); exact BK229.out) hb); have n2_ := Aside0.mk (below_step (by repeat (first | (with_reducible first | exact HB.out | apply below_alloc | apply pw_below_drewN | apply below_drew1 | refine below_set ?_ GE229.out) | exact HB.out)) hb); clear BK229; clear HB; have HO233 := n0_; have BK229 := n1_; have HB := n2_; clear n0_ n1_ n2_; (try clear hb); (try clear hb2); (try clear hk); (try clear hi); (try clear ho0)) | ((with_reducible refine gate_builtin (b := .append) (xs := #[.tmp 41, .tmp 47]) rfl ?_); at_builtin; refine Kd.R_append k38 (w0 := w) w.heap.size rfl (.tmp 41) (.tmp 47) 22 38 (.agg #[(.int .i64 0), (.int .i64 0), (.int .i64 0), (.int .i64 0), (.slice none 0 0)]) 56 rfl Try.underlying22 info38 rfl (by decide) (by omega) v232 t231 (⟨a2, a4, a3, (⟨1, ([] : List (S51))⟩ : S36)⟩ : S38) [.int .i64 a2, .int .i64 a4, .int .i64 a3, .int .i64 1, .slice none 0 0] (fun _ => True) (fun k_ => ((fun _ => True)) k_ ∧ some k_ ≠ (v232 : Value).ownBlock) rfl rfl ?aP (fun _ hk => hk) ?aF ?aO ?aB ?aS ?aL ?_; (case aP => exact k38_mkM _ _ _ (⟨a2, a4, a3, (⟨1, ([] : List (S51))⟩ : S36)⟩ : S38) (Kd.R_nil _ _ _ _ _)); (case aB => exact (by repeat (first | (with_reducible first | exact HB.out | apply below_alloc | apply pw_below_drewN | apply below_drew1 | refine below_set ?_ GE229.out) | exact HB.out))); (case aF => exact (fun _ _ => trivial)); (case aO => exact (by (with_reducible repeat (first | apply Kd.R_alloc | apply Kd.R_drewN | apply Kd.R_drew)); exact HO233.out)); (case aS => exact (below_size (by repeat (first | (with_reducible first | exact HB.out | apply below_alloc | apply pw_below_drewN | apply below_drew1 | refine below_set ?_ GE229.out) | exact HB.out)))); (case aL => have := LMc19.out; omega); intro v235 w22 ho hb hg hat; rw [← Ny234.out] at ho; have n0_ := Aside0.mk (blk_grown (g := gb229) (o := .cells #[.int .i64 a1_0, .int .i64 a1_1, .int .i64 a1_2] 24 (0, 0)) (by (with_reducible repeat (first | refine blk_drewN ?_ _ | refine blk_drew ?_ | refine blk_alloc ?_ _)); exact BK229.out) hg (Kd.R_ne HO233.out BK229.out (by decide))); have n1_ := Aside0.mk (hb); have n2_ := Aside0.mk (ho); clear BK229; clear HB; clear HO233; have BK229 := n0_; have HB := n1_; have HO236 := n2_; clear n0_ n1_ n2_; clear ho hb hg hat))
                go_ret3
                exact ⟨_, by first | rfl | (simp [errW_none, errW_some] <;> rfl) | (simp [*, errW_none, errW_some] <;> rfl), by (with_reducible repeat (first | apply Kd.R_alloc | apply Kd.R_drewN | apply Kd.R_drew)); exact HO236.out, by repeat (first | (with_reducible first | exact HB.out | apply below_alloc | apply pw_below_drewN | apply below_drew1 | refine below_set ?_ GE229.out) | exact HB.out)⟩
              · rw [if_neg c19] at H
                exact absurd H (by simp)
  · rw [if_neg c7] at H
    have c7b0 : (t230 == 0) = false := beq_eq_false_iff_ne.mpr c7
    have c7b1 : (t230 != 0) = true := bne_iff_ne.mpr c7
    simp only [Option.some.injEq, Prod.mk.injEq] at H
    obtain ⟨rfl, rfl, rfl⟩ := H
    go_enter Try.func19, Try.ntmps19
    go_wp2_with (first | ((with_reducible refine gate_dst (N := 6) rfl ?_); refine box_event ?hg (N := 6) ?hd (cs := #[.int .i64 a1_0, .int .i64 a1_1, .int .i64 a1_2]) (t := 24) ?hr ?_; (case hd => rfl); (case hg => rfl); (case hr => first | (go_simp; done) | (go_simp; rfl)); intro gb229 hg w23 hbox hb; have n0_ := Aside0.mk (below_step (by repeat (first | (with_reducible first | exact HB.out | apply below_alloc | apply pw_below_drewN | apply below_drew1) | exact HB.out)) hb); have n1_ := Aside0.mk (hbox); have n2_ := Aside0.mk ((by rw [hg]; exact (below_size (by repeat (first | (with_reducible first | exact HB.out | apply below_alloc | apply pw_below_drewN | apply below_drew1) | exact HB.out))) : w.heap.size ≤ gb229)); have n3_ := Aside0.mk ((by rw [hg]; exact (below_size (by repeat (first | (with_reducible first | exact HB.out | apply below_alloc | apply pw_below_drewN | apply below_drew1) | exact HB.out))) : w.heap.size ≤ gb229)); clear HB; have HB := n0_; have BK229 := n1_; have GW229 := n2_; have GE229 := n3_; clear n0_ n1_ n2_ n3_; clear hb hbox hg; have hcz24_0 : w23.cell? ⟨gb229, 0, none⟩ = some (.int .i64 a1_0) := (blk_cell BK229.out 0).trans rfl; have hcz24_1 : w23.cell? ⟨gb229, 1, none⟩ = some (.int .i64 a1_1) := (blk_cell BK229.out 1).trans rfl; have hcz24_2 : w23.cell? ⟨gb229, 2, none⟩ = some (.int .i64 a1_2) := (blk_cell BK229.out 2).trans rfl; have hfz24_0 := blk_frozen BK229.out 0; have hfz24_1 := blk_frozen BK229.out 1; have hfz24_2 := blk_frozen BK229.out 2) | ((with_reducible refine gate_callee (f := 28) rfl ?_); refine goesL_ (some 18) rfl rfl Try.func28 (by kernel_rfl) rfl #[.slice A0 l0.length c0, .agg #[.int .i64 a1_0, .int .i64 a1_1, .int .i64 a1_2], .int .i64 a2, .int .i64 a3] rfl (by (try simp only [List.map_toArray, List.map_cons, List.map_nil]); first | done | rfl | (simp only [List.length_drop, List.length_take]; rfl)) ?_; (with_reducible refine (waybillref23_Check.calls _ _ l0 a1_0 a1_1 a1_2 a2 a3 t230 _ ?side1 ?side2 A6.out).mono ?_); (case side1 => repeat (first | exact (Kd.C_below HR0.out HB.out) | (with_reducible refine Kd.C_alloc ?_ _) | (with_reducible refine Kd.C_drewN ?_ _) | (with_reducible refine Kd.C_drew ?_))); (case side2 => exact HC0.out); rintro e w25 ⟨rfl, hb⟩; refine ⟨_, rfl, ?_⟩; have n0_ := Aside0.mk (blk_below (g := gb229) (o := .cells #[.int .i64 a1_0, .int .i64 a1_1, .int .i64 a1_2] 24 (0, 0)) (by (with_reducible repeat (first | refine blk_drewN ?_ _ | refine blk_drew ?_ | refine blk_alloc ?_ _)); exact BK229.out) hb); have n1_ := Aside0.mk (below_step (by repeat (first | (with_reducible first | exact HB.out | apply below_alloc | apply pw_below_drewN | apply below_drew1 | refine below_set ?_ GE229.out) | exact HB.out)) hb); clear BK229; clear HB; have BK229 := n0_; have HB := n1_; clear n0_ n1_; (try clear hb); (try clear hb2); (try clear hk); (try clear hi)))
    go_ret3
    exact ⟨_, by first | rfl | (simp [errW_none, errW_some] <;> rfl) | (simp [*, errW_none, errW_some] <;> rfl), by first | exact Kd.R_nil _ _ _ _ _ | exact Kd.N_nil _ _ _ _ _ | exact Kd.V_nil _ _ _ _ _ | exact Kd.Q_nil _ _ _ _ _ | exact Kd.S_nil _ _ _ _ _, by repeat (first | (with_reducible first | exact HB.out | apply below_alloc | apply pw_below_drewN | apply below_drew1 | refine below_set ?_ GE229.out) | exact HB.out)⟩
end Go.Proofs.Ythfjgfldmkdlnaa.G
end

section
namespace Go.Proofs.Ythfjgfldmkdlnaa.G
open WB Go.RowKit Go.Proofs.YthfjgfldmkdlnaaW.PrintWords Go.Proofs.YthfjgfldmkdlnaaW.PrintLast Go.Proofs.YthfjgfldmkdlnaaW.PrintMore
attribute [local go_sem] max2_int min2_int max_two min_two max_three min_three max_four min_four   -- for this text's walks alone
set_option linter.unusedVariables false
set_option linter.unusedSimpArgs false
/-- Within what a row's arguments may be. -/
def FitD (l : List S51) : Prop := l.length ≤ 3518437208800 ∧ ∀ d ∈ l, d.f2.length ≤ 140737488351232
theorem own22_l0 (m : Int) (l : List S51) (hf : FitD l) : ∀ (n i : Nat), l.length - i = n → i ≤ l.length → ∀ k, n < k → waybillref22_Own.l0 k (i : Int) m l m (l.take i) = some (m, l) := by
  obtain ⟨hl, hd⟩ := hf
  intro n
  induction n with
  | zero =>
    intro i hn hi k hk
    obtain ⟨k, rfl⟩ : ∃ q, k = q + 1 := ⟨k - 1, by omega⟩
    simp only [waybillref22_Own.l0]
    rw [if_neg (by omega), List.take_of_length_le (by omega)]
  | succ n ih =>
    intro i hn hi k hk
    obtain ⟨k, rfl⟩ : ∃ q, k = q + 1 := ⟨k - 1, by omega⟩
    have hlt : i < l.length := by omega
    have hxe : rd_T51 l (i : Int) = l[i] := by simp [rd_T51, List.getElem?_eq_getElem hlt]
    have hw2 : wrap64 ((i : Int) + 1) = ((i + 1 : Nat) : Int) := by unfold wrap64; omega
    have e := ih (i + 1) (by omega) (by omega) k (by omega)
    rw [List.take_succ_eq_append_getElem hlt] at e
    have hk2 : waybillref22_Kept.f l[i].f0 l[i].f1 l[i].f2 = some (l[i].f0, l[i].f1, l[i].f2) := by
      have := hd _ (List.getElem_mem hlt)
      unfold waybillref22_Kept.f waybillref01_Copied.f
      rw [if_pos (by simp; omega)]
      rfl
    simp only [waybillref22_Own.l0]
    rw [if_pos (by omega), if_pos (by omega), hxe, hk2, Option.bind_some, if_pos (by rw [List.length_take]; omega), hw2]
    exact e
theorem own22 (m : Int) (l : List S51) (hf : FitD l) (k : Nat) (hk : l.length < k) : waybillref22_Own.f k m l = some (m, l) := own22_l0 m l hf l.length 0 (by omega) (by omega) k hk
/-- Sessions within what a row's arguments may be; M bounds what is in them. -/
structure FitS (l : List S38) (M : Nat) : Prop where
  len : l.length ≤ 2513169434915
  fit : ∀ x ∈ l, FitD x.f3.f1 ∧ x.f3.f1.length ≤ M
theorem bound_of {α : Type} (f : α → Nat) : ∀ l : List α, ∃ M, ∀ x ∈ l, f x ≤ M
  | [] => ⟨0, by simp⟩
  | a :: l => by
    obtain ⟨M, h⟩ := bound_of f l
    refine ⟨M + f a, fun x hx => ?_⟩
    rcases List.mem_cons.1 hx with rfl | hx
    · omega
    · have := h x hx; omega
theorem own23_l0 (l : List S38) (M : Nat) (hf : FitS l M) : ∀ (n i : Nat), l.length - i = n → i ≤ l.length → ∀ k, n + M < k → waybillref23_Own.l0 k l (l.take i) (i : Int) = some l := by
  intro n
  have hl := hf.len
  induction n with
  | zero =>
    intro i hn hi k hk
    obtain ⟨k, rfl⟩ : ∃ q, k = q + 1 := ⟨k - 1, by omega⟩
    simp only [waybillref23_Own.l0]
    rw [if_neg (by omega), List.take_of_length_le (by omega)]
  | succ n ih =>
    intro i hn hi k hk
    obtain ⟨k, rfl⟩ : ∃ q, k = q + 1 := ⟨k - 1, by omega⟩
    have hlt : i < l.length := by omega
    have hxe : rd_T38 l (i : Int) = l[i] := by simp [rd_T38, List.getElem?_eq_getElem hlt]
    have hw2 : wrap64 ((i : Int) + 1) = ((i + 1 : Nat) : Int) := by unfold wrap64; omega
    have e := ih (i + 1) (by omega) (by omega) k (by omega)
    rw [List.take_succ_eq_append_getElem hlt] at e
    have hx := hf.fit _ (List.getElem_mem hlt)
    simp only [waybillref23_Own.l0]
    rw [if_pos (by omega), if_pos (by omega), hxe, own22 _ _ hx.1 k (by omega), Option.bind_some, if_pos (by rw [List.length_take]; omega), hw2]
    exact e
theorem own23 (l : List S38) (M : Nat) (hf : FitS l M) (k : Nat) (hk : l.length + M < k) : waybillref23_Own.f k l = some l := own23_l0 l M hf l.length 0 (by omega) (by omega) k hk
theorem fit_may {l : List S38} {a b c n t : Int} (h : MayS l a b c n t) : FitS l 64 := by
  have h1 := h.s
  have h2 := h.len
  refine ⟨by omega, fun x hx => ?_⟩
  have h3 := may_of _ _ _ (h.od x hx).2.2.2.2.2.2
  have h4 := h3.len
  refine ⟨⟨by omega, fun d hd => ?_⟩, by omega⟩
  obtain ⟨i, hi, rfl⟩ := List.mem_iff_getElem.1 hd
  have h5 := (h3.bds i hi).2.2.2.2
  rw [List.getD_eq_getElem?_getD, List.getElem?_eq_getElem hi] at h5
  simp only [Option.getD_some] at h5
  omega
/-- How far the sessions are looked at: those that stay lead to what their owner has made. -/
structure RExpInv (w w3 : World) (l : List S38) (s0 s1 s2 tick : Int) (k : Nat) (v12 v13 : Value) (wr : World) : Prop where
  b : wr.heap[w.heap.size]? = some (.cells #[.int .i64 s0, .int .i64 s1, .int .i64 s2] 24 (0, 0))
  bel : Below w3.heap.size w3 wr
  ro : Kd.R k38 38 wr w.heap.size (fun _ => True) v12 (stayS s1 tick (l.take k))
  rb : ∀ q, v12.ownBlock = some q → w3.heap.size ≤ q
  rg : Kd.R (Kd.int .i64) 3 wr w3.heap.size (fun _ => True) v13 (goneS s1 tick (l.take k))
theorem stayS_snoc (a b : Int) (l : List S38) (x : S38) : stayS a b (l ++ [x]) = stayS a b l ++ (if overS a b x = true then [] else [x]) := by
  unfold stayS
  rw [List.filter_append]
  congr 1
  by_cases h : overS a b x = true <;> simp [h]
def waybillref23_Expire.f (l0 : List (S38)) (a1_0 : Int) (a1_1 : Int) (a1_2 : Int) (a2 : Int) (a3 : Int) : Option ((List (S38)) × List Int × Int) := some (expireS l0 a1_0 a1_1 a1_2 a2 a3)
set_option maxHeartbeats 4000000 in
set_option maxRecDepth 100000 in
theorem waybillref23_Expire.calls (A0 : Option Addr) (c0 : Nat) (l0 : List (S38)) (a1_0 : Int) (a1_1 : Int) (a1_2 : Int) (a2 : Int) (a3 : Int) (r1 : List (S38)) (r2 : List Int) (r3 : Int) (w : World) (hr0 : Kd.C k38 w A0 l0.length l0) (hc0 : l0.length ≤ c0) (h : waybillref23_Expire.f l0 a1_0 a1_1 a1_2 a2 a3 = some (r1, r2, r3)) :
    Calls Try.prog 20 #[.slice A0 l0.length c0, .agg #[.int .i64 a1_0, .int .i64 a1_1, .int .i64 a1_2], .int .i64 a2, .int .i64 a3] w fun e w' => ∃ v0_ v1_ : Value, e = .returned (.tuple #[v0_, v1_, .int .i64 r3]) ∧ Kd.R k38 38 w' w.heap.size (fun _ => True) v0_ r1 ∧ Kd.R (Kd.int .i64) 3 w' w.heap.size (fun _ => True) v1_ r2 ∧ Below w.heap.size w w' := by
  replace h := Option.some.inj h
  have HH := Aside0.mk h
  have HR := Aside0.mk hr0
  have HC := Aside0.mk hc0
  have HBW := Aside0.mk (below_alloc (Below.refl w.heap.size w) (.cells #[.int .i64 a1_0, .int .i64 a1_1, .int .i64 a1_2] 24))
  have BS := Aside0.mk (heap_new1 w (.cells #[.int .i64 a1_0, .int .i64 a1_1, .int .i64 a1_2] 24))
  have hm0 : l0.length ≤ 9223372036854775807 := hr0.2.1
  clear h hr0 hc0
  go_enter Try.func20, Try.ntmps20
  go_wp2_with fail
  go_at_call 28
  with_reducible refine (waybillref23_Check.calls A0 c0 l0 a1_0 a1_1 a1_2 a2 a3 (checkS l0 a1_0 a1_1 a1_2 a2 a3) _ (Kd.C_alloc HR.out _) HC.out rfl).mono ?_
  rintro e w1 ⟨rfl, hb⟩
  have HB1 := Aside0.mk (below_then HBW.out HBW.out.size hb)
  have BS1 := Aside0.mk (blk_below BS.out hb)
  clear hb
  by_cases hc0 : checkS l0 a1_0 a1_1 a1_2 a2 a3 = 0
  · rw [hc0]
    have HM := Aside0.mk (mayS_of hc0)
    have HLN : Aside0 (l0.length ≤ 64) := ⟨by have := HM.out.len; have := HM.out.s; omega⟩
    obtain ⟨⟨⟩⟩ : Aside0 ((stayS a1_1 a3 l0, goneS a1_1 a3 l0, (0 : Int)) = (r1, r2, r3)) := ⟨by rw [← HH.out]; unfold expireS; rw [if_pos hc0]⟩
    clear hc0
    go_wp2_with fail
    go_at_call 17
    with_reducible refine (waybillref23_Own.calls 200 A0 c0 l0 l0 _ (Kd.C_below HR.out HB1.out) HC.out (own23 l0 64 (fit_may HM.out) 200 (by have := HLN.out; omega))).mono ?_
    rintro e w3 ⟨v3, rfl, hr3, hb3⟩
    obtain ⟨A3, c3, rfl⟩ := Kd.R_slice hr3
    have HR3 := Aside0.mk (Kd.R_lower hr3 HB1.out.size)
    have HB3 := Aside0.mk (below_then HB1.out HB1.out.size hb3)
    have BS3 := Aside0.mk (blk_below BS1.out hb3)
    have HS3 : Aside0 (w1.heap.size ≤ w3.heap.size) := ⟨hb3.size⟩
    clear hr3 hb3
    go_wp2_with fail
    go_loopw [12, 13, 15] (fun v12 v13 v15 wr => ∃ k : Nat, v15 = .int .i64 k ∧ k ≤ l0.length ∧ Aside0 (RExpInv w w3 l0 a1_0 a1_1 a1_2 a3 k v12 v13 wr)) (fun _ _ v15 _ => l0.length - (intOf v15).toNat)
    case atStart => exact ⟨0, rfl, by omega, ⟨BS3.out, Below.refl _ _, Kd.R_nil _ _ _ _ _, fun q hq => by simp [Value.ownBlock] at hq, Kd.R_nil _ _ _ _ _⟩⟩
    case round =>
      obtain ⟨k, rfl, hk, HI⟩ := hrel
      obtain ⟨Ag, cg, hvg⟩ := Kd.R_slice HI.out.rg
      subst hvg
      obtain ⟨Ao, co, hvo⟩ := Kd.R_slice HI.out.ro
      subst hvo
      by_cases hlt : k < l0.length
      · have b1 : decide ((k : Int) < (l0.length : Int)) = true := decide_eq_true (by omega)
        have b1' : decide (k < l0.length) = true := decide_eq_true hlt
        obtain ⟨g, rfl⟩ : ∃ g, A3 = some ⟨g, 0, none⟩ := by
          rcases A3 with _ | ad
          · obtain ⟨A, c, he, _, hC⟩ := Kd.R_reads HR3.out
            obtain ⟨ad, h1, _⟩ := hC.2.2 (by omega)
            injection he with he
            rw [h1] at he
            cases he
          · obtain ⟨g, rfl⟩ := Kd.R_head HR3.out
            exact ⟨g, rfl⟩
        obtain ⟨cs, hz1, hz2, hz3, hz4⟩ := Kd.R_elem (Kd.R_below (Kd.R_bound HR3.out) HI.out.bel) z38 (k : Int) (by omega) (by omega)
        simp only [Int.toNat_natCast] at hz2 hz3 hz4
        have hxe : l0.getD k z38 = l0[k] := by simp [List.getElem?_eq_getElem hlt]
        rw [hxe] at hz2
        obtain ⟨x, hx⟩ : ∃ x, x = l0[k] := ⟨_, rfl⟩
        rw [← hx] at hz2
        obtain ⟨A2, c2, rfl, l2, g2⟩ := k38_open (k38.K_of_M hz2)
        have q0 : wr.cell? ⟨g, k * 5, none⟩ = some (.int .i64 x.f0) := hz3 0 _ rfl
        have q1 : wr.cell? ⟨g, k * 5 + 1, none⟩ = some (.int .i64 x.f1) := hz3 1 _ rfl
        have q2 : wr.cell? ⟨g, k * 5 + 2, none⟩ = some (.int .i64 x.f2) := hz3 2 _ rfl
        have q3 : wr.cell? ⟨g, k * 5 + 3, none⟩ = some (.int .i64 x.f3.f0) := hz3 3 _ rfl
        have q4 : wr.cell? ⟨g, k * 5 + 4, none⟩ = some (.slice A2 x.f3.f1.length c2) := hz3 4 _ rfl
        have y1 : wr.cell? ⟨w.heap.size, 1, none⟩ = some (.int .i64 a1_1) := (blk_cell HI.out.b 1).trans rfl
        have HMX := Aside0.mk (k38.M_mono (ok' := fun q => q < w3.heap.size) (fun q hq => hq.1.2.2.1) hz2)
        have HX := Aside0.mk (HM.out.od x (by rw [hx]; exact List.getElem_mem hlt))
        have HTK : Aside0 (l0.take (k + 1) = l0.take k ++ [x]) := ⟨by rw [List.take_succ_eq_append_getElem hlt, hx]⟩
        have hww : IntKind.i64.wrap (x.f2 + a1_1) = x.f2 + a1_1 := by have := HX.out; have := HM.out.n; have := HM.out.s; rw [IntKind.wrap_i64]; omega
        have HSL : Aside0 ((stayS a1_1 a3 (l0.take k)).length ≤ 64) := ⟨by
          have : (stayS a1_1 a3 (l0.take k)).length ≤ (l0.take k).length := List.length_filter_le _ _
          rw [List.length_take] at this
          have := HLN.out; omega⟩
        have HGL : Aside0 ((goneS a1_1 a3 (l0.take k)).length ≤ 64) := ⟨by
          have : (goneS a1_1 a3 (l0.take k)).length ≤ (l0.take k).length := by unfold goneS; rw [List.length_map]; exact List.length_filter_le _ _
          rw [List.length_take] at this
          have := HLN.out; omega⟩
        clear hz1 hz2 hz3 hz4 hxe hx l2 g2
        obtain ⟨C, hC⟩ : ∃ C, decide (x.f2 + a1_1 ≤ a3) = C := ⟨_, rfl⟩
        go_wp2_with fail
        refine region_facts (B := _) (w0 := _) [(32, (fun v _ => v = .slice (some ⟨g, 0, none⟩) l0.length c3)), (33, (fun v _ => v = .int .i64 k)), (34, (fun v _ => v = .pointer (some ⟨g, k * 5, none⟩))), (35, (fun v _ => v = .pointer (some ⟨g, k * 5 + 2, none⟩))), (36, (fun v _ => v = .int .i64 x.f2)), (37, (fun v _ => v = .pointer (some ⟨w.heap.size, 1, none⟩))), (38, (fun v _ => v = .int .i64 a1_1)), (39, (fun v _ => v = .int .i64 (x.f2 + a1_1))), (40, (fun v _ => v = .int .i64 a3)), (41, (fun v _ => v = .bool (C)))] (by kernel_rfl) (by kernel_rfl) (by rfl) (show ([32, 33, 34, 35, 36, 37, 38, 39, 40, 41] : List Nat).Nodup by decide) ?hsz ?hst (Below.refl _ _) (Nat.le_refl _) ?step ?fin
        case hsz => exact List.forall_mem_cons.2 ⟨(show 32 < 59 by decide), List.forall_mem_cons.2 ⟨(show 33 < 59 by decide), List.forall_mem_cons.2 ⟨(show 34 < 59 by decide), List.forall_mem_cons.2 ⟨(show 35 < 59 by decide), List.forall_mem_cons.2 ⟨(show 36 < 59 by decide), List.forall_mem_cons.2 ⟨(show 37 < 59 by decide), List.forall_mem_cons.2 ⟨(show 38 < 59 by decide), List.forall_mem_cons.2 ⟨(show 39 < 59 by decide), List.forall_mem_cons.2 ⟨(show 40 < 59 by decide), List.forall_mem_cons.2 ⟨(show 41 < 59 by decide), fun _ h => nomatch h⟩⟩⟩⟩⟩⟩⟩⟩⟩⟩
        case hst => exact List.forall_mem_cons.2 ⟨(fun v w1 w2 hb h => h), List.forall_mem_cons.2 ⟨(fun v w1 w2 hb h => h), List.forall_mem_cons.2 ⟨(fun v w1 w2 hb h => h), List.forall_mem_cons.2 ⟨(fun v w1 w2 hb h => h), List.forall_mem_cons.2 ⟨(fun v w1 w2 hb h => h), List.forall_mem_cons.2 ⟨(fun v w1 w2 hb h => h), List.forall_mem_cons.2 ⟨(fun v w1 w2 hb h => h), List.forall_mem_cons.2 ⟨(fun v w1 w2 hb h => h), List.forall_mem_cons.2 ⟨(fun v w1 w2 hb h => h), List.forall_mem_cons.2 ⟨(fun v w1 w2 hb h => h), fun _ h => nomatch h⟩⟩⟩⟩⟩⟩⟩⟩⟩⟩
        case step =>
          intro i_ o_ e_ ho he a w1_ hs hdf hfr hbl hbs hpre
          match i_, ho, he with
          | 0, ho, he => obtain rfl : o_ = ⟨_, _, _, _, _, _⟩ := (Option.some.inj ho).symm; obtain rfl := Option.some.inj he; clear he; have f14 : a.tmps.getD 14 undef = .slice (some ⟨g, 0, none⟩) l0.length c3 := (by rw [Array.getD_eq_getD_getElem?, hfr 14 (show ¬ 14 ∈ ([32, 33, 34, 35, 36, 37, 38, 39, 40, 41] : List Nat) by decide)]; rfl); clear hpre hfr; refine wpOp_value (v := .slice (some ⟨g, 0, none⟩) l0.length c3) ho rfl ?_ ⟨_, rfl, rfl, Below.refl _ _⟩; simp only [execOp, Act.eval, List.map_toArray, List.map_cons, List.map_nil, f14]; first | rfl | (go_simp; done) | (go_simp; rfl) | (go_simp; intro h_; exfalso; omega)
          | 1, ho, he => obtain rfl : o_ = ⟨_, _, _, _, _, _⟩ := (Option.some.inj ho).symm; obtain rfl := Option.some.inj he; clear he; have f15 : a.tmps.getD 15 undef = .int .i64 k := (by rw [Array.getD_eq_getD_getElem?, hfr 15 (show ¬ 15 ∈ ([32, 33, 34, 35, 36, 37, 38, 39, 40, 41] : List Nat) by decide)]; rfl); clear hpre hfr; refine wpOp_value (v := .int .i64 k) ho rfl ?_ ⟨_, rfl, rfl, Below.refl _ _⟩; simp only [execOp, Act.eval, List.map_toArray, List.map_cons, List.map_nil, f15]; first | rfl | (go_simp; done) | (go_simp; rfl) | (go_simp; intro h_; exfalso; omega)
          | 2, ho, he => obtain rfl : o_ = ⟨_, _, _, _, _, _⟩ := (Option.some.inj ho).symm; obtain rfl := Option.some.inj he; clear he; have e32 : a.tmps.getD 32 undef = .slice (some ⟨g, 0, none⟩) l0.length c3 := hpre ⟨0, .data⟩ (by simp) rfl _ rfl; have e33 : a.tmps.getD 33 undef = .int .i64 k := hpre ⟨1, .data⟩ (by simp) rfl _ rfl; clear hpre hfr; refine wpOp_value (v := .pointer (some ⟨g, k * 5, none⟩)) ho rfl ?_ ⟨_, rfl, rfl, Below.refl _ _⟩; simp only [execOp, Act.eval, List.map_toArray, List.map_cons, List.map_nil, e32, e33]; first | rfl | (go_simp; done) | (go_simp; rfl) | (go_simp; intro h_; exfalso; omega)
          | 3, ho, he => obtain rfl : o_ = ⟨_, _, _, _, _, _⟩ := (Option.some.inj ho).symm; obtain rfl := Option.some.inj he; clear he; have e34 : a.tmps.getD 34 undef = .pointer (some ⟨g, k * 5, none⟩) := hpre ⟨2, .data⟩ (by simp) rfl _ rfl; clear hpre hfr; refine wpOp_value (v := .pointer (some ⟨g, k * 5 + 2, none⟩)) ho rfl ?_ ⟨_, rfl, rfl, Below.refl _ _⟩; simp only [execOp, Act.eval, List.map_toArray, List.map_cons, List.map_nil, e34]; first | rfl | (go_simp; done) | (go_simp; rfl) | (go_simp; intro h_; exfalso; omega)
          | 4, ho, he => obtain rfl : o_ = ⟨_, _, _, _, _, _⟩ := (Option.some.inj ho).symm; obtain rfl := Option.some.inj he; clear he; have e35 : a.tmps.getD 35 undef = .pointer (some ⟨g, k * 5 + 2, none⟩) := hpre ⟨3, .data⟩ (by simp) rfl _ rfl; clear hpre hfr; have k_q2 := (hbl.cell (World.block_lt_of_cell? _ _ q2)).trans q2; refine wpOp_value (v := .int .i64 x.f2) ho rfl ?_ ⟨_, rfl, rfl, Below.refl _ _⟩; simp only [execOp, Act.eval, List.map_toArray, List.map_cons, List.map_nil, e35]; first | rfl | (go_simp; done) | (go_simp; rfl) | (go_simp; intro h_; exfalso; omega)
          | 5, ho, he => obtain rfl : o_ = ⟨_, _, _, _, _, _⟩ := (Option.some.inj ho).symm; obtain rfl := Option.some.inj he; clear he; have f5 : a.tmps.getD 5 undef = .pointer (some ⟨w.heap.size, 0, none⟩) := (by rw [Array.getD_eq_getD_getElem?, hfr 5 (show ¬ 5 ∈ ([32, 33, 34, 35, 36, 37, 38, 39, 40, 41] : List Nat) by decide)]; rfl); clear hpre hfr; refine wpOp_value (v := .pointer (some ⟨w.heap.size, 1, none⟩)) ho rfl ?_ ⟨_, rfl, rfl, Below.refl _ _⟩; simp only [execOp, Act.eval, List.map_toArray, List.map_cons, List.map_nil, f5]; first | rfl | (go_simp; done) | (go_simp; rfl) | (go_simp; intro h_; exfalso; omega)
          | 6, ho, he => obtain rfl : o_ = ⟨_, _, _, _, _, _⟩ := (Option.some.inj ho).symm; obtain rfl := Option.some.inj he; clear he; have e37 : a.tmps.getD 37 undef = .pointer (some ⟨w.heap.size, 1, none⟩) := hpre ⟨5, .data⟩ (by simp) rfl _ rfl; clear hpre hfr; have k_y1 := (hbl.cell (World.block_lt_of_cell? _ _ y1)).trans y1; refine wpOp_value (v := .int .i64 a1_1) ho rfl ?_ ⟨_, rfl, rfl, Below.refl _ _⟩; simp only [execOp, Act.eval, List.map_toArray, List.map_cons, List.map_nil, e37]; first | rfl | (go_simp; done) | (go_simp; rfl) | (go_simp; intro h_; exfalso; omega)
          | 7, ho, he => obtain rfl : o_ = ⟨_, _, _, _, _, _⟩ := (Option.some.inj ho).symm; obtain rfl := Option.some.inj he; clear he; have e36 : a.tmps.getD 36 undef = .int .i64 x.f2 := hpre ⟨4, .data⟩ (by simp) rfl _ rfl; have e38 : a.tmps.getD 38 undef = .int .i64 a1_1 := hpre ⟨6, .data⟩ (by simp) rfl _ rfl; clear hpre hfr; refine wpOp_value (v := .int .i64 (x.f2 + a1_1)) ho rfl ?_ ⟨_, rfl, rfl, Below.refl _ _⟩; simp only [execOp, Act.eval, List.map_toArray, List.map_cons, List.map_nil, e36, e38]; first | rfl | (go_simp; done) | (go_simp; rfl) | (go_simp; intro h_; exfalso; omega)
          | 8, ho, he => obtain rfl : o_ = ⟨_, _, _, _, _, _⟩ := (Option.some.inj ho).symm; obtain rfl := Option.some.inj he; clear he; have f3 : a.tmps.getD 3 undef = .int .i64 a3 := (by rw [Array.getD_eq_getD_getElem?, hfr 3 (show ¬ 3 ∈ ([32, 33, 34, 35, 36, 37, 38, 39, 40, 41] : List Nat) by decide)]; rfl); clear hpre hfr; refine wpOp_value (v := .int .i64 a3) ho rfl ?_ ⟨_, rfl, rfl, Below.refl _ _⟩; simp only [execOp, Act.eval, List.map_toArray, List.map_cons, List.map_nil, f3]; first | rfl | (go_simp; done) | (go_simp; rfl) | (go_simp; intro h_; exfalso; omega)
          | 9, ho, he => obtain rfl : o_ = ⟨_, _, _, _, _, _⟩ := (Option.some.inj ho).symm; obtain rfl := Option.some.inj he; clear he; have e39 : a.tmps.getD 39 undef = .int .i64 (x.f2 + a1_1) := hpre ⟨7, .data⟩ (by simp) rfl _ rfl; have e40 : a.tmps.getD 40 undef = .int .i64 a3 := hpre ⟨8, .data⟩ (by simp) rfl _ rfl; clear hpre hfr; refine wpOp_value (v := .bool (C)) ho rfl ?_ ⟨_, rfl, rfl, Below.refl _ _⟩; simp only [execOp, Act.eval, List.map_toArray, List.map_cons, List.map_nil, e39, e40]; first | rfl | (go_simp; done) | (go_simp; rfl) | (go_simp; intro h_; exfalso; omega)
          | n_ + 10, ho, he => simp at he
        case fin =>
          intro xv_ w1_ hbl hx
          simp only [List.forall_mem_cons] at hx
          obtain ⟨x32, x33, x34, x35, x36, x37, x38, x39, x40, x41, _⟩ := hx
          simp only [List.map_cons, List.map_nil, putL, Act.put, List.setIfInBounds_toArray, List.set_cons_zero, List.set_cons_succ, x32, x33, x34, x35, x36, x37, x38, x39, x40, x41]
          clear x32 x33 x34 x35 x36 x37 x38 x39 x40 x41
          have HBL := Aside0.mk hbl
          have p0 := (hbl.cell (World.block_lt_of_cell? _ _ q0)).trans q0
          have p1 := (hbl.cell (World.block_lt_of_cell? _ _ q1)).trans q1
          have p2 := (hbl.cell (World.block_lt_of_cell? _ _ q2)).trans q2
          have p3 := (hbl.cell (World.block_lt_of_cell? _ _ q3)).trans q3
          have p4 := (hbl.cell (World.block_lt_of_cell? _ _ q4)).trans q4
          clear q0 q1 q2 q3 q4 y1 hbl
          have RO2 := Aside0.mk (Kd.R_below HI.out.ro HBL.out)
          have RG2 := Aside0.mk (Kd.R_below HI.out.rg HBL.out)
          have MX2 := Aside0.mk (Kd.M_below HMX.out HBL.out)
          have B2 := Aside0.mk (blk_below HI.out.b HBL.out)
          have BL2 := Aside0.mk (below_then HI.out.bel HI.out.bel.size HBL.out)
          obtain ⟨w4, hw4⟩ : ∃ w4, w4 = w1_ := ⟨_, rfl⟩
          subst hw4
          have HS4 : Aside0 (w3.heap.size ≤ w4.heap.size ∧ w.heap.size ≤ w3.heap.size) := ⟨BL2.out.size, HB3.out.size⟩
          cases C with
          | true =>
            have o1 : overS a1_1 a3 x = true := hC
            have HG2 : Aside0 (goneS a1_1 a3 (l0.take (k + 1)) = goneS a1_1 a3 (l0.take k) ++ [x.f0] ∧ stayS a1_1 a3 (l0.take (k + 1)) = stayS a1_1 a3 (l0.take k)) := ⟨by rw [HTK.out, goneS_snoc, stayS_snoc, if_pos o1, if_pos o1, List.append_nil]; exact ⟨rfl, rfl⟩⟩
            clear o1 hC
            go_wp2_with (first | ((with_reducible refine gate_builtin (b := .append) (xs := #[.tmp 42, .tmp 48]) rfl ?_); at_builtin; refine Kd.R_append_rows (Kd.int .i64) (w0 := w4) w3.heap.size rfl (.tmp 42) (.tmp 48) 40 3 (.int .i64 0) 8 rfl Try.underlying40 info3 rfl (by decide) (by omega) _ (goneS a1_1 a3 (l0.take k)) [x.f0] _ _ _ (fun _ => True) (fun _ => False) rfl rfl (Kd.R_alloc RG2.out _) (C_ints (k := .i64) (heap_new1 _ _) (by simp) rfl) (fun _ _ h => h) (fun _ h => h.elim) (fun _ _ => trivial) (below_alloc0 (Below.refl _ _) HS4.out.1 _) (by have := HS4.out.1; simp; omega) (by have := HGL.out; simp; omega) ?_; intro v5 w5 ho5 hb5 hg5 hat5; have HO5 := Aside0.mk ho5; have HB5 := Aside0.mk hb5; have HG5 := Aside0.mk hg5; clear ho5 hb5 hg5 hat5) | fail)
            go_roundw
            case rel =>
              have hb2 := blk_alloc B2.out (.cells #[.int .i64 x.f0] 3)
              exact ⟨k + 1, by go_num, by omega, ⟨⟨blk_grown hb2 HG5.out (Kd.R_ne (Kd.R_alloc RG2.out _) hb2 (by decide)), BL2.out.trans HB5.out, by rw [HG2.out.2]; exact Kd.R_over (Kd.R_alloc RO2.out _) (Kd.R_alloc RG2.out _) (by decide) HG5.out, HI.out.rb, by rw [HG2.out.1]; exact HO5.out⟩⟩⟩
            case measure => simp [intOf]; omega
          | false =>
            have o1 : ¬ overS a1_1 a3 x = true := by unfold overS; rw [hC]; simp
            have HG2 : Aside0 (goneS a1_1 a3 (l0.take (k + 1)) = goneS a1_1 a3 (l0.take k) ∧ stayS a1_1 a3 (l0.take (k + 1)) = stayS a1_1 a3 (l0.take k) ++ [x]) := ⟨by rw [HTK.out, goneS_snoc, stayS_snoc, if_neg o1, if_neg o1, List.append_nil]; exact ⟨rfl, rfl⟩⟩
            clear o1 hC
            go_wp2_with (first | ((with_reducible refine gate_builtin (b := .append) (xs := #[.tmp 50, .tmp 55]) rfl ?_); at_builtin; refine Kd.R_append k38 (w0 := w4) w.heap.size rfl (.tmp 50) (.tmp 55) 22 38 (.agg #[.int .i64 0, .int .i64 0, .int .i64 0, .int .i64 0, .slice none 0 0]) 56 rfl Try.underlying22 info38 rfl (by decide) (by omega) _ (stayS a1_1 a3 (l0.take k)) x [.int .i64 x.f0, .int .i64 x.f1, .int .i64 x.f2, .int .i64 x.f3.f0, .slice A2 x.f3.f1.length c2] (fun _ => True) (fun q => q < w3.heap.size) rfl rfl MX2.out (fun q hq => ⟨trivial, fun he => by have := HI.out.rb q he.symm; omega⟩) (fun _ _ => trivial) RO2.out (Below.refl _ _) (by have := HS4.out; omega) (by have := HSL.out; omega) ?_; intro v5 w5 ho5 hb5 hg5 hat5; have HO5 := Aside0.mk ho5; have HB5 := Aside0.mk hb5; have HG5 := Aside0.mk hg5; have HA5 := Aside0.mk hat5; clear ho5 hb5 hg5 hat5) | fail)
            go_roundw
            case rel =>
              refine ⟨k + 1, by go_num, by omega, ⟨⟨blk_grown B2.out HG5.out (Kd.R_ne RO2.out B2.out (by decide)), ?_, by rw [HG2.out.2]; exact HO5.out, fun q hq => ?_, by rw [HG2.out.1]; exact Kd.R_over RG2.out RO2.out (by decide) HG5.out⟩⟩⟩
              · exact pw_below_grown BL2.out _ HS4.out.1 HG5.out HI.out.rb
              · rcases HA5.out with h | ⟨b, h1, h2⟩
                · exact HI.out.rb q (h.symm.trans hq)
                · rw [h1] at hq
                  injection hq with hq
                  have := HS4.out.1
                  omega
            case measure => simp [intOf]; omega
      · have b1 : decide ((k : Int) < (l0.length : Int)) = false := decide_eq_false (by omega)
        have b1' : decide (k < l0.length) = false := decide_eq_false hlt
        have hro := HI.out.ro
        have hrg := HI.out.rg
        rw [List.take_of_length_le (by omega)] at hro hrg
        have HRO := Aside0.mk hro
        have HRG := Aside0.mk hrg
        rw [List.take_of_length_le (show l0.length ≤ k by omega)]
        clear hro hrg
        go_wp2_with fail
        go_ret3
        exact ⟨_, _, rfl, HRO.out, Kd.R_lower HRG.out HB3.out.size, below_then HB3.out HB3.out.size HI.out.bel⟩
  · have t1 : (checkS l0 a1_0 a1_1 a1_2 a2 a3 == 0) = false := by simpa using hc0
    have t2 : (checkS l0 a1_0 a1_1 a1_2 a2 a3 != 0) = true := by simpa using hc0
    obtain ⟨⟨⟩⟩ : Aside0 ((([], [], checkS l0 a1_0 a1_1 a1_2 a2 a3) : List S38 × List Int × Int) = (r1, r2, r3)) := ⟨by rw [← HH.out]; unfold expireS; rw [if_neg hc0]⟩
    go_wp2_with fail
    go_ret3
    exact ⟨_, _, rfl, Kd.R_nil _ _ _ _ _, Kd.R_nil _ _ _ _ _, HB1.out⟩
end Go.Proofs.Ythfjgfldmkdlnaa.G
end
