/- WindowTells: texts of this claim, packed: what the kit's print has written for it and own texts, without what its proof does not reach. -/
import Derived.Test.YtkdkjnjiianogaaKWindowTells12
import Derived.Test.YtkdkjnjiianogaaKWindowTells13
set_option linter.unusedVariables false
set_option linter.unusedSimpArgs false
set_option linter.unusedSectionVars false
section
namespace Go.Proofs.Ytkdkjnjiianogaa.G
open WB Go.RowKit Go.Proofs.YtkdkjnjiianogaaW.PrintWords Go.Proofs.YtkdkjnjiianogaaW.PrintLast Go.Proofs.YtkdkjnjiianogaaW.PrintMore
attribute [local go_sem] max2_int min2_int max_two min_two max_three min_three max_four min_four   -- for this text's walks alone
set_option linter.unusedVariables false
set_option linter.unusedSimpArgs false
mutual
def window_Open.l0 : Nat → List Int → Int → List (S32) → Int → Int → Option (List Int × Int)
  | 0, _, _, _, _, _ => none
  | k + 1, x7, x8, x20, x21, x22 => if x22 < x21 then (if 0 ≤ x22 then (if x22 < (x20.length : Int) then (window_Open.l1 k x7 x8 x20 x21 x22 ((rd_T32 x20 x22).f0) ((rd_T32 x20 x22).f1) ((rd_T32 x20 x22).f2)) else (none)) else (none)) else (some (x7, 0))
def window_Open.l1 : Nat → List Int → Int → List (S32) → Int → Int → Int → Int → List Int → Option (List Int × Int)
  | 0, _, _, _, _, _, _, _, _ => none
  | k + 1, x7, x8, x20, x21, x22, x152000, x152001, x152002 => if x8 < x152000 then (if x7.length < 17592186044416 then (window_Open.l1 k (x7 ++ [x8]) (wrap64 (x8 + 1)) x20 x21 x22 x152000 x152001 x152002) else (none)) else (window_Open.l0 k x7 (wrap64 (x152000 + 1)) x20 x21 (wrap64 (x22 + 1)))
end
def window_Open.f (k : Nat) (a0_0 : Int) (l0_1 : List (S32)) (a1 : Int) : Option (List Int × Int) := (window_Check.f a0_0 l0_1 a1).bind fun t149 => (if t149 = 0 then (window_Open.l0 k ([] : List Int) a0_0 l0_1 (l0_1.length : Int) 0) else (some (([] : List Int), t149)))
theorem window_Open.mono_l : ∀ k, (∀ y0 y1 y2 y3 y4, LeO (window_Open.l0 k y0 y1 y2 y3 y4) (window_Open.l0 (k + 1) y0 y1 y2 y3 y4)) ∧ (∀ y0 y1 y2 y3 y4 y5 y6 y7, LeO (window_Open.l1 k y0 y1 y2 y3 y4 y5 y6 y7) (window_Open.l1 (k + 1) y0 y1 y2 y3 y4 y5 y6 y7))
  | 0 => ⟨fun _ _ _ _ _ r h => by simp [window_Open.l0] at h, fun _ _ _ _ _ _ _ _ r h => by simp [window_Open.l1] at h⟩
  | k + 1 => by
    obtain ⟨ih0, ih1⟩ := window_Open.mono_l k
    refine ⟨?_, ?_⟩
    · intro y0 y1 y2 y3 y4
      unfold window_Open.l0
      repeat' first
      | (with_reducible exact ih0 _ _ _ _ _)
      | (with_reducible exact ih1 _ _ _ _ _ _ _ _)
      | (with_reducible exact LeO.refl _)
      | (with_reducible exact LeO.none _)
      | (with_reducible refine LeO.ite ?_ ?_)
      | (with_reducible refine LeO.bind ?_ (fun _ => ?_))
      | exact ih0 _ _ _ _ _
      | exact ih1 _ _ _ _ _ _ _ _
      | exact LeO.none _
      | refine LeO.ite ?_ ?_
      | refine LeO.bind ?_ (fun _ => ?_)
    · intro y0 y1 y2 y3 y4 y5 y6 y7
      unfold window_Open.l1
      repeat' first
      | (with_reducible exact ih0 _ _ _ _ _)
      | (with_reducible exact ih1 _ _ _ _ _ _ _ _)
      | (with_reducible exact LeO.refl _)
      | (with_reducible exact LeO.none _)
      | (with_reducible refine LeO.ite ?_ ?_)
      | (with_reducible refine LeO.bind ?_ (fun _ => ?_))
      | exact ih0 _ _ _ _ _
      | exact ih1 _ _ _ _ _ _ _ _
      | exact LeO.none _
      | refine LeO.ite ?_ ?_
      | refine LeO.bind ?_ (fun _ => ?_)
theorem window_Open.mono : ∀ a0 a1 a2 k, LeO (window_Open.f k a0 a1 a2) (window_Open.f (k + 1) a0 a1 a2) := by
  intro a0 a1 a2 k
  obtain ⟨ih0, ih1⟩ := window_Open.mono_l k
  unfold window_Open.f
  repeat' first
      | (with_reducible exact ih0 _ _ _ _ _)
      | (with_reducible exact ih1 _ _ _ _ _ _ _ _)
      | (with_reducible exact LeO.refl _)
      | (with_reducible exact LeO.none _)
      | (with_reducible refine LeO.ite ?_ ?_)
      | (with_reducible refine LeO.bind ?_ (fun _ => ?_))
      | exact ih0 _ _ _ _ _
      | exact ih1 _ _ _ _ _ _ _ _
      | exact LeO.none _
      | refine LeO.ite ?_ ?_
      | refine LeO.bind ?_ (fun _ => ?_)
set_option maxHeartbeats 8000000 in
set_option maxRecDepth 100000 in
theorem window_Open.calls (k : Nat) (a0_0 : Int) (A0_1 : Option Addr) (c0_1 : Nat) (l0_1 : List (S32)) (a1 : Int) (r1 : List Int) (r2 : Int) (w : World) (hr0_1 : Kd.C k32 w A0_1 l0_1.length l0_1) (hc0_1 : l0_1.length ≤ c0_1) (h : window_Open.f k a0_0 l0_1 a1 = some (r1, r2)) :
    Calls Try.prog 10 #[.agg #[.int .i64 a0_0, .slice A0_1 l0_1.length c0_1], .int .i64 a1] w fun e w' => ∃ v0_ : Value, e = .returned (.tuple #[v0_, .int .i64 r2]) ∧ Kd.R (Kd.int .i64) 3 w' w.heap.size (fun _ => True) v0_ r1 ∧ Below w.heap.size w w' := by
  have hu24 := Try.underlying24
  have hu32 := Try.underlying32
  have HR0_1 := Aside0.mk hr0_1
  have HC0_1 := Aside0.mk hc0_1
  clear hr0_1 hc0_1
  have HB := Aside0.mk (Below.refl w.heap.size w)
  have H : ((window_Check.f a0_0 l0_1 a1).bind fun t149 => (if t149 = 0 then (window_Open.l0 k ([] : List Int) a0_0 l0_1 (l0_1.length : Int) 0) else (some (([] : List Int), t149)))) = some (r1, r2) := h
  clear h
  replace H := Option.bind_eq_some_iff.mp H
  obtain ⟨t149, A30, H⟩ := H
  replace H : (if t149 = 0 then (window_Open.l0 k ([] : List Int) a0_0 l0_1 (l0_1.length : Int) 0) else (some (([] : List Int), t149))) = some (r1, r2) := H
  have A3 := Aside0.mk A30
  clear A30
  by_cases c4 : t149 = 0
  · rw [if_pos c4] at H
    have c4b0 : (t149 == 0) = true := beq_iff_eq.mpr c4
    have c4b1 : (t149 != 0) = false := bne_eq_false_iff_eq.mpr c4
    clear c4
    have H' := Aside0.mk H
    clear H
    go_enter Try.func10, Try.ntmps10
    go_wp2_with (first | ((with_reducible refine gate_dst (N := 2) rfl ?_); refine box_event ?hg (N := 2) ?hd (cs := #[.int .i64 a0_0, .slice A0_1 l0_1.length c0_1]) (t := 24) ?hr ?_; (case hd => rfl); (case hg => rfl); (case hr => first | (go_simp; done) | (go_simp; rfl)); intro gb148 hg w5 hbox hb; have n0_ := Aside0.mk (below_step (by repeat (first | (with_reducible first | exact HB.out | apply below_alloc | apply pw_below_drewN | apply below_drew1) | exact HB.out)) hb); have n1_ := Aside0.mk (hbox); have n2_ := Aside0.mk ((by rw [hg]; exact (below_size (by repeat (first | (with_reducible first | exact HB.out | apply below_alloc | apply pw_below_drewN | apply below_drew1) | exact HB.out))) : w.heap.size ≤ gb148)); have n3_ := Aside0.mk ((by rw [hg]; exact (below_size (by repeat (first | (with_reducible first | exact HB.out | apply below_alloc | apply pw_below_drewN | apply below_drew1) | exact HB.out))) : w.heap.size ≤ gb148)); clear HB; have HB := n0_; have BK148 := n1_; have GW148 := n2_; have GE148 := n3_; clear n0_ n1_ n2_ n3_; clear hb hbox hg; have hcz6_0 : w5.cell? ⟨gb148, 0, none⟩ = some (.int .i64 a0_0) := (blk_cell BK148.out 0).trans rfl; have hcz6_1 : w5.cell? ⟨gb148, 1, none⟩ = some (.slice A0_1 l0_1.length c0_1) := (blk_cell BK148.out 1).trans rfl; have hfz6_0 := blk_frozen BK148.out 0; have hfz6_1 := blk_frozen BK148.out 1) | ((with_reducible refine gate_callee (f := 14) rfl ?_); refine goesL_ (some 13) rfl rfl Try.func14 (by kernel_rfl) rfl #[.agg #[.int .i64 a0_0, .slice A0_1 l0_1.length c0_1], .int .i64 a1] rfl (by (try simp only [List.map_toArray, List.map_cons, List.map_nil]); first | done | rfl | (simp only [List.length_drop, List.length_take]; rfl)) ?_; (with_reducible refine (window_Check.calls a0_0 _ _ l0_1 a1 t149 _ ?side1 ?side2 A3.out).mono ?_); (case side1 => repeat (first | exact (Kd.C_below HR0_1.out HB.out) | (with_reducible refine Kd.C_alloc ?_ _) | (with_reducible refine Kd.C_drewN ?_ _) | (with_reducible refine Kd.C_drew ?_))); (case side2 => exact HC0_1.out); rintro e w7 ⟨rfl, hb⟩; refine ⟨_, rfl, ?_⟩; have n0_ := Aside0.mk (blk_below (g := gb148) (o := .cells #[.int .i64 a0_0, .slice A0_1 l0_1.length c0_1] 24 (0, 0)) (by (with_reducible repeat (first | refine blk_drewN ?_ _ | refine blk_drew ?_ | refine blk_alloc ?_ _)); exact BK148.out) hb); have n1_ := Aside0.mk (below_step (by repeat (first | (with_reducible first | exact HB.out | apply below_alloc | apply pw_below_drewN | apply below_drew1 | refine below_set ?_ GE148.out) | exact HB.out)) hb); clear BK148; clear HB; have BK148 := n0_; have HB := n1_; clear n0_ n1_; (try clear hb); (try clear hb2); (try clear hk); (try clear hi); have hcz8_0 : w7.cell? ⟨gb148, 0, none⟩ = some (.int .i64 a0_0) := (blk_cell BK148.out 0).trans rfl; have hcz8_1 : w7.cell? ⟨gb148, 1, none⟩ = some (.slice A0_1 l0_1.length c0_1) := (blk_cell BK148.out 1).trans rfl; have hfz8_0 := blk_frozen BK148.out 0; have hfz8_1 := blk_frozen BK148.out 1))
    go_loopg [7, 8, 22] k (fun kq v7 v8 v22 w' => ∃ (x7_1 : List Int) (x8_1 : Int) (x22_1 : Int), v8 = .int .i64 x8_1 ∧ v22 = .int .i64 x22_1 ∧ Aside0 (window_Open.l0 kq x7_1 x8_1 l0_1 (l0_1.length : Int) x22_1 = some (r1, r2)) ∧ Aside0 (kq ≤ k) ∧ Aside0 (Kd.R (Kd.int .i64) 3 w' w.heap.size (fun _ => True) v7 x7_1) ∧ Aside0 (w'.heap[gb148]? = some (.cells #[.int .i64 a0_0, (.slice A0_1 l0_1.length c0_1)] 24 (0, 0))) ∧ Aside0 (Below w.heap.size w w'))
    case atStart => exact ⟨(([] : List Int)), (a0_0), (0), (by first | rfl | (simp; done) | (simp [*]; done)), (by first | rfl | (simp; done) | (simp [*]; done)), H', ⟨Nat.le_refl _⟩, ⟨by first | exact Kd.R_nil _ _ _ _ _ | exact Kd.N_nil _ _ _ _ _ | exact Kd.V_nil _ _ _ _ _ | exact Kd.Q_nil _ _ _ _ _ | exact Kd.S_nil _ _ _ _ _⟩, ⟨by (with_reducible repeat (first | refine blk_drewN ?_ _ | refine blk_drew ?_ | refine blk_alloc ?_ _)); exact BK148.out⟩, ⟨by repeat (first | (with_reducible first | exact HB.out | apply below_alloc | apply pw_below_drewN | apply below_drew1 | refine below_set ?_ GE148.out) | exact HB.out)⟩⟩
    case round =>
      clear H'
      try clear c1
      try clear p2
      try clear c4
      try clear c4b0
      try clear c4b1
      try clear hcz6_0
      try clear hcz6_1
      try clear hcz8_0
      try clear hcz8_1
      try clear hfz6_0
      try clear hfz6_1
      try clear hfz8_0
      try clear hfz8_1
      obtain ⟨x7_1, x8_1, x22_1, rfl, rfl, HA, HK1, HO_7, BK148, HB⟩ := hrel
      cases gk with
      | zero => exact absurd HA.out (by simp [window_Open.l0])
      | succ k1 =>
        have H := HA.out
        clear HA
        simp only [window_Open.l0] at H
        by_cases c9 : x22_1 < (l0_1.length : Int)
        · rw [if_pos c9] at H
          have c9b0 : decide (x22_1 < (l0_1.length : Int)) = true := decide_eq_true c9
          clear c9
          by_cases c10 : 0 ≤ x22_1
          · rw [if_pos c10] at H
            have c10b0 : decide (0 ≤ x22_1) = true := decide_eq_true c10
            clear c10
            by_cases c11 : x22_1 < (l0_1.length : Int)
            · rw [if_pos c11] at H
              have c11b0 : decide (x22_1 < (l0_1.length : Int)) = true := decide_eq_true c11
              clear c11
              have H' := Aside0.mk H
              clear H
              have p150 : 0 ≤ (x22_1 : Int) := of_decide_eq_true (by first | (with_reducible assumption) | assumption)
              have q150 : x22_1 < (l0_1.length : Int) := of_decide_eq_true (by first | (with_reducible assumption) | assumption)
              obtain ⟨ad150, A150_2, c150_2, e150, hx150_0, hx150_1, hx150_2, hl150_2, hi150_2⟩ := at_T32 HR0_1.out x22_1 p150 q150
              cases e150
              replace hx150_0 := (HB.out.cell (World.block_lt_of_cell? w _ hx150_0)).trans hx150_0
              replace hx150_1 := (HB.out.cell (World.block_lt_of_cell? w _ hx150_1)).trans hx150_1
              replace hx150_2 := (HB.out.cell (World.block_lt_of_cell? w _ hx150_2)).trans hx150_2
              have HR150_2 := Aside0.mk hi150_2
              have HC150_2 := Aside0.mk hl150_2
              clear hi150_2 hl150_2
              replace p150 := eq_true p150
              replace q150 := eq_true q150
              go_wp2_with (first | ((with_reducible refine gate_dst (N := 10) rfl ?_); refine box_event ?hg (N := 10) ?hd (cs := #[.int .i64 0, .int .i64 0, .slice none 0 0]) (t := 32) ?hr ?_; (case hd => rfl); (case hg => rfl); (case hr => first | (go_simp; done) | (go_simp; rfl)); intro gb151 hg w12 hbox hb; have n0_ := Aside0.mk (Kd.R_below (by (with_reducible repeat (first | apply Kd.R_alloc | apply Kd.R_drewN | apply Kd.R_drew)); exact HO_7.out) hb); have n1_ := Aside0.mk (blk_below (g := gb148) (o := .cells #[.int .i64 a0_0, .slice (some ad150) l0_1.length c0_1] 24 (0, 0)) (by (with_reducible repeat (first | refine blk_drewN ?_ _ | refine blk_drew ?_ | refine blk_alloc ?_ _)); exact BK148.out) hb); have n2_ := Aside0.mk (below_step (by repeat (first | (with_reducible first | exact HB.out | apply below_alloc | apply pw_below_drewN | apply below_drew1 | refine below_set ?_ GE148.out) | exact HB.out)) hb); have n3_ := Aside0.mk (hbox); have n4_ := Aside0.mk ((by rw [hg]; exact (below_size (by repeat (first | (with_reducible first | exact HB.out | apply below_alloc | apply pw_below_drewN | apply below_drew1 | refine below_set ?_ GE148.out) | exact HB.out))) : w.heap.size ≤ gb151)); have n5_ := Aside0.mk ((by rw [hg]; exact (below_size (by repeat (first | (with_reducible first | exact HB.out | apply below_alloc | apply pw_below_drewN | apply below_drew1 | refine below_set ?_ GE148.out) | exact HB.out))) : w.heap.size ≤ gb151)); have n6_ := Aside0.mk ((by rw [hg]; exact Nat.ne_of_lt (blk_lt (g := gb148) (o := .cells #[.int .i64 a0_0, .slice (some ad150) l0_1.length c0_1] 24 (0, 0)) (by (with_reducible repeat (first | refine blk_drewN ?_ _ | refine blk_drew ?_ | refine blk_alloc ?_ _)); exact BK148.out)) : gb148 ≠ gb151)); have n7_ := Aside0.mk ((by rw [hg]; exact Nat.ne_of_gt (blk_lt (g := gb148) (o := .cells #[.int .i64 a0_0, .slice (some ad150) l0_1.length c0_1] 24 (0, 0)) (by (with_reducible repeat (first | refine blk_drewN ?_ _ | refine blk_drew ?_ | refine blk_alloc ?_ _)); exact BK148.out)) : gb151 ≠ gb148)); clear HO_7; clear BK148; clear HB; have HO_7 := n0_; have BK148 := n1_; have HB := n2_; have BK151 := n3_; have GW151 := n4_; have GE151 := n5_; have NB148_151 := n6_; have NB151_148 := n7_; clear n0_ n1_ n2_ n3_ n4_ n5_ n6_ n7_; clear hb hbox hg; have hnb13 := NB151_148.out; have hnc13 := NB148_151.out; have hcz14_0 : w12.cell? ⟨gb151, 0, none⟩ = some (.int .i64 0) := (blk_cell BK151.out 0).trans rfl; have hcz14_1 : w12.cell? ⟨gb151, 1, none⟩ = some (.int .i64 0) := (blk_cell BK151.out 1).trans rfl; have hcz14_2 : w12.cell? ⟨gb151, 2, none⟩ = some (.slice none 0 0) := (blk_cell BK151.out 2).trans rfl; have hfz14_0 := blk_frozen BK151.out 0; have hfz14_1 := blk_frozen BK151.out 1; have hfz14_2 := blk_frozen BK151.out 2))
              go_loopg [7, 8] k1 (fun kq v7 v8 w' => ∃ (x7_2 : List Int) (x8_2 : Int), v8 = .int .i64 x8_2 ∧ Aside0 (window_Open.l1 kq x7_2 x8_2 l0_1 (l0_1.length : Int) x22_1 ((rd_T32 l0_1 x22_1).f0) ((rd_T32 l0_1 x22_1).f1) ((rd_T32 l0_1 x22_1).f2) = some (r1, r2)) ∧ Aside0 (kq ≤ k1) ∧ Aside0 (Kd.R (Kd.int .i64) 3 w' w.heap.size (fun _ => True) v7 x7_2) ∧ Aside0 (w'.heap[gb148]? = some (.cells #[.int .i64 a0_0, (.slice (some ad150) l0_1.length c0_1)] 24 (0, 0))) ∧ Aside0 (w'.heap[gb151]? = some (.cells #[.int .i64 ((rd_T32 l0_1 x22_1).f0), .int .i64 ((rd_T32 l0_1 x22_1).f1), (.slice A150_2 ((rd_T32 l0_1 x22_1).f2).length c150_2)] 32 (0, 0))) ∧ Aside0 (Below w.heap.size w w'))
              case atStart => exact ⟨(x7_1), (x8_1), (by first | rfl | (simp; done) | (simp [*]; done)), H', ⟨Nat.le_refl _⟩, ⟨by (with_reducible repeat (first | apply Kd.R_alloc | apply Kd.R_drewN | apply Kd.R_drew)); exact Kd.R_mono (Kd.R_far (p := ⟨gb151, 2, none⟩) (Kd.R_far (p := ⟨gb151, 1, none⟩) (Kd.R_far (p := ⟨gb151, 0, none⟩) (Kd.R_types HO_7.out BK151.out (by decide)) (fun _ hk => hk.2) (.int .i64 ((rd_T32 l0_1 x22_1).f0))) (fun _ hk => hk.2) (.int .i64 ((rd_T32 l0_1 x22_1).f1))) (fun _ hk => hk.2) (.slice A150_2 ((rd_T32 l0_1 x22_1).f2).length c150_2)) (fun _ hk => trivial)⟩, ⟨by (with_reducible repeat (first | refine blk_drewN ?_ _ | refine blk_drew ?_ | refine blk_alloc ?_ _)); refine blk_far ?_ NB148_151.out _; (with_reducible repeat (first | refine blk_drewN ?_ _ | refine blk_drew ?_ | refine blk_alloc ?_ _)); refine blk_far ?_ NB148_151.out _; (with_reducible repeat (first | refine blk_drewN ?_ _ | refine blk_drew ?_ | refine blk_alloc ?_ _)); refine blk_far ?_ NB148_151.out _; (with_reducible repeat (first | refine blk_drewN ?_ _ | refine blk_drew ?_ | refine blk_alloc ?_ _)); exact BK148.out⟩, ⟨by (with_reducible repeat (first | refine blk_drewN ?_ _ | refine blk_drew ?_ | refine blk_alloc ?_ _)); refine blk_put (cs := #[.int .i64 ((rd_T32 l0_1 x22_1).f0), .int .i64 ((rd_T32 l0_1 x22_1).f1), .slice none 0 0]) ?_ 2 _ rfl; (with_reducible repeat (first | refine blk_drewN ?_ _ | refine blk_drew ?_ | refine blk_alloc ?_ _)); refine blk_put (cs := #[.int .i64 ((rd_T32 l0_1 x22_1).f0), .int .i64 0, .slice none 0 0]) ?_ 1 _ rfl; (with_reducible repeat (first | refine blk_drewN ?_ _ | refine blk_drew ?_ | refine blk_alloc ?_ _)); refine blk_put (cs := #[.int .i64 0, .int .i64 0, .slice none 0 0]) ?_ 0 _ rfl; (with_reducible repeat (first | refine blk_drewN ?_ _ | refine blk_drew ?_ | refine blk_alloc ?_ _)); exact BK151.out⟩, ⟨by repeat (first | (with_reducible first | exact HB.out | apply below_alloc | apply pw_below_drewN | apply below_drew1 | refine below_set ?_ GE148.out | refine below_set ?_ GE151.out) | exact HB.out)⟩⟩
              case round =>
                clear H'
                try clear c1
                try clear p1
                try clear q1
                try clear hx1
                try clear p2
                try clear c4
                try clear c4b0
                try clear c4b1
                try clear c9
                try clear c9b0
                try clear c10
                try clear c10b0
                try clear c11
                try clear c11b0
                try clear c13
                try clear c14
                try clear hcz14_0
                try clear hcz14_1
                try clear hcz14_2
                try clear hcz6_0
                try clear hcz6_1
                try clear hcz8_0
                try clear hcz8_1
                try clear hfz14_0
                try clear hfz14_1
                try clear hfz14_2
                try clear hfz6_0
                try clear hfz6_1
                try clear hfz8_0
                try clear hfz8_1
                try clear hx150_0
                try clear hx150_1
                try clear hx150_2
                try clear p150
                try clear p2
                try clear q150
                obtain ⟨x7_2, x8_2, rfl, HA, HK2, HO_7, BK148, BK151, HB⟩ := hrel
                cases gk with
                | zero => exact absurd HA.out (by simp [window_Open.l1])
                | succ k2 =>
                  have H := HA.out
                  clear HA
                  simp only [window_Open.l1] at H
                  by_cases c15 : x8_2 < ((rd_T32 l0_1 x22_1).f0)
                  · rw [if_pos c15] at H
                    have c15b0 : decide (x8_2 < ((rd_T32 l0_1 x22_1).f0)) = true := decide_eq_true c15
                    clear c15
                    by_cases c16 : x7_2.length < 17592186044416
                    · rw [if_pos c16] at H
                      have LMc16 := Aside0.mk c16
                      clear c16
                      obtain ⟨y152, hy152⟩ : ∃ y_ : List Int, y_ = (x7_2 ++ [x8_2]) := ⟨_, rfl⟩
                      replace H : (window_Open.l1 k2 y152 (wrap64 (x8_2 + 1)) l0_1 (l0_1.length : Int) x22_1 ((rd_T32 l0_1 x22_1).f0) ((rd_T32 l0_1 x22_1).f1) ((rd_T32 l0_1 x22_1).f2)) = some (r1, r2) := by first | (rw [hy152]; with_reducible exact H) | (have H2_ := (Option.bind_some _ _).symm.trans H; rw [hy152]; with_reducible exact H2_) | (have H2_ := (Option.bind_some _ _).symm.trans H; with_reducible exact H2_) | with_reducible exact H | (rw [hy152]; exact H) | exact H
                      have Ny152 := Aside0.mk hy152
                      clear hy152
                      have H' := Aside0.mk H
                      clear H
                      have hnb17 := NB151_148.out
                      have hnc17 := NB148_151.out
                      have hcz18_0 : wr.cell? ⟨gb151, 0, none⟩ = some (.int .i64 ((rd_T32 l0_1 x22_1).f0)) := (blk_cell BK151.out 0).trans rfl
                      have hcz18_1 : wr.cell? ⟨gb151, 1, none⟩ = some (.int .i64 ((rd_T32 l0_1 x22_1).f1)) := (blk_cell BK151.out 1).trans rfl
                      have hcz18_2 : wr.cell? ⟨gb151, 2, none⟩ = some (.slice A150_2 ((rd_T32 l0_1 x22_1).f2).length c150_2) := (blk_cell BK151.out 2).trans rfl
                      have hfz18_0 := blk_frozen BK151.out 0
                      have hfz18_1 := blk_frozen BK151.out 1
                      have hfz18_2 := blk_frozen BK151.out 2
                      go_wp2_with (first | ((with_reducible refine gate_builtin (b := .append) (xs := #[.tmp 32, .tmp 34]) rfl ?_); at_builtin; refine Kd.R_append (Kd.int .i64) (w0 := w) w.heap.size rfl (.tmp 32) (.tmp 34) 26 3 (.int .i64 0) 8 rfl Try.underlying26 info3 rfl (by decide) (by omega) u7 x7_2 x8_2 [.int .i64 x8_2] (fun _ => True) (fun _ => False) rfl rfl ?aP (fun _ hk => hk.elim) ?aF ?aO ?aB ?aS ?aL ?_; (case aP => exact rfl); (case aB => exact (by repeat (first | (with_reducible first | exact HB.out | apply below_alloc | apply pw_below_drewN | apply below_drew1 | refine below_set ?_ GE148.out | refine below_set ?_ GE151.out) | exact HB.out))); (case aF => exact (fun _ _ => trivial)); (case aO => exact (by (with_reducible repeat (first | apply Kd.R_alloc | apply Kd.R_drewN | apply Kd.R_drew)); exact HO_7.out)); (case aS => exact (below_size (by repeat (first | (with_reducible first | exact HB.out | apply below_alloc | apply pw_below_drewN | apply below_drew1 | refine below_set ?_ GE148.out | refine below_set ?_ GE151.out) | exact HB.out)))); (case aL => have := LMc16.out; omega); intro v153 w19 ho hb hg hat; rw [← Ny152.out] at ho; have n0_ := Aside0.mk (blk_grown (g := gb148) (o := .cells #[.int .i64 a0_0, .slice (some ad150) l0_1.length c0_1] 24 (0, 0)) (by (with_reducible repeat (first | refine blk_drewN ?_ _ | refine blk_drew ?_ | refine blk_alloc ?_ _)); exact BK148.out) hg (Kd.R_ne HO_7.out BK148.out (by decide))); have n1_ := Aside0.mk (blk_grown (g := gb151) (o := .cells #[.int .i64 ((rd_T32 l0_1 x22_1).f0), .int .i64 ((rd_T32 l0_1 x22_1).f1), .slice A150_2 ((rd_T32 l0_1 x22_1).f2).length c150_2] 32 (0, 0)) (by (with_reducible repeat (first | refine blk_drewN ?_ _ | refine blk_drew ?_ | refine blk_alloc ?_ _)); exact BK151.out) hg (Kd.R_ne HO_7.out BK151.out (by decide))); have n2_ := Aside0.mk (hb); have n3_ := Aside0.mk (ho); clear BK148; clear BK151; clear HB; clear HO_7; have BK148 := n0_; have BK151 := n1_; have HB := n2_; have HO154 := n3_; clear n0_ n1_ n2_ n3_; clear ho hb hg hat))
                      go_roundg k2
                      case measure => have := HK1.out; have := HK2.out; omega
                      case rel => exact ⟨(y152), (wrap64 (x8_2 + 1)), (by first | rfl | (simp; done) | (simp [*]; done)), H', ⟨by have := HK1.out; have := HK2.out; omega⟩, ⟨by (with_reducible repeat (first | apply Kd.R_alloc | apply Kd.R_drewN | apply Kd.R_drew)); exact HO154.out⟩, ⟨by (with_reducible repeat (first | refine blk_drewN ?_ _ | refine blk_drew ?_ | refine blk_alloc ?_ _)); exact BK148.out⟩, ⟨by (with_reducible repeat (first | refine blk_drewN ?_ _ | refine blk_drew ?_ | refine blk_alloc ?_ _)); exact BK151.out⟩, ⟨by repeat (first | (with_reducible first | exact HB.out | apply below_alloc | apply pw_below_drewN | apply below_drew1 | refine below_set ?_ GE148.out | refine below_set ?_ GE151.out) | exact HB.out)⟩⟩
                    · rw [if_neg c16] at H
                      exact absurd H (by simp)
                  · rw [if_neg c15] at H
                    have c15b0 : decide (x8_2 < ((rd_T32 l0_1 x22_1).f0)) = false := decide_eq_false c15
                    clear c15
                    have H' := Aside0.mk H
                    clear H
                    have hnb20 := NB151_148.out
                    have hnc20 := NB148_151.out
                    have hcz21_0 : wr.cell? ⟨gb151, 0, none⟩ = some (.int .i64 ((rd_T32 l0_1 x22_1).f0)) := (blk_cell BK151.out 0).trans rfl
                    have hcz21_1 : wr.cell? ⟨gb151, 1, none⟩ = some (.int .i64 ((rd_T32 l0_1 x22_1).f1)) := (blk_cell BK151.out 1).trans rfl
                    have hcz21_2 : wr.cell? ⟨gb151, 2, none⟩ = some (.slice A150_2 ((rd_T32 l0_1 x22_1).f2).length c150_2) := (blk_cell BK151.out 2).trans rfl
                    have hfz21_0 := blk_frozen BK151.out 0
                    have hfz21_1 := blk_frozen BK151.out 1
                    have hfz21_2 := blk_frozen BK151.out 2
                    go_wp2
                    go_roundg k2
                    case measure => have := HK1.out; have := HK2.out; omega
                    case rel => exact ⟨(x7_2), (wrap64 (((rd_T32 l0_1 x22_1).f0) + 1)), (wrap64 (x22_1 + 1)), (by first | rfl | (simp; done) | (simp [*]; done)), (by first | rfl | (simp; done) | (simp [*]; done)), H', ⟨by have := HK1.out; have := HK2.out; omega⟩, ⟨by (with_reducible repeat (first | apply Kd.R_alloc | apply Kd.R_drewN | apply Kd.R_drew)); exact HO_7.out⟩, ⟨by (with_reducible repeat (first | refine blk_drewN ?_ _ | refine blk_drew ?_ | refine blk_alloc ?_ _)); exact BK148.out⟩, ⟨by repeat (first | (with_reducible first | exact HB.out | apply below_alloc | apply pw_below_drewN | apply below_drew1 | refine below_set ?_ GE148.out | refine below_set ?_ GE151.out) | exact HB.out)⟩⟩
            · rw [if_neg c11] at H
              exact absurd H (by simp)
          · rw [if_neg c10] at H
            exact absurd H (by simp)
        · rw [if_neg c9] at H
          have c9b0 : decide (x22_1 < (l0_1.length : Int)) = false := decide_eq_false c9
          clear c9
          simp only [Option.some.injEq, Prod.mk.injEq] at H
          obtain ⟨rfl, rfl⟩ := H
          go_wp2
          go_ret2
          exact ⟨_, by first | rfl | (simp [errW_none, errW_some] <;> rfl) | (simp [*, errW_none, errW_some] <;> rfl), by (with_reducible repeat (first | apply Kd.R_alloc | apply Kd.R_drewN | apply Kd.R_drew)); exact HO_7.out, by repeat (first | (with_reducible first | exact HB.out | apply below_alloc | apply pw_below_drewN | apply below_drew1 | refine below_set ?_ GE148.out) | exact HB.out)⟩
  · rw [if_neg c4] at H
    have c4b0 : (t149 == 0) = false := beq_eq_false_iff_ne.mpr c4
    have c4b1 : (t149 != 0) = true := bne_iff_ne.mpr c4
    simp only [Option.some.injEq, Prod.mk.injEq] at H
    obtain ⟨rfl, rfl⟩ := H
    go_enter Try.func10, Try.ntmps10
    go_wp2_with (first | ((with_reducible refine gate_dst (N := 2) rfl ?_); refine box_event ?hg (N := 2) ?hd (cs := #[.int .i64 a0_0, .slice A0_1 l0_1.length c0_1]) (t := 24) ?hr ?_; (case hd => rfl); (case hg => rfl); (case hr => first | (go_simp; done) | (go_simp; rfl)); intro gb148 hg w22 hbox hb; have n0_ := Aside0.mk (below_step (by repeat (first | (with_reducible first | exact HB.out | apply below_alloc | apply pw_below_drewN | apply below_drew1) | exact HB.out)) hb); have n1_ := Aside0.mk (hbox); have n2_ := Aside0.mk ((by rw [hg]; exact (below_size (by repeat (first | (with_reducible first | exact HB.out | apply below_alloc | apply pw_below_drewN | apply below_drew1) | exact HB.out))) : w.heap.size ≤ gb148)); have n3_ := Aside0.mk ((by rw [hg]; exact (below_size (by repeat (first | (with_reducible first | exact HB.out | apply below_alloc | apply pw_below_drewN | apply below_drew1) | exact HB.out))) : w.heap.size ≤ gb148)); clear HB; have HB := n0_; have BK148 := n1_; have GW148 := n2_; have GE148 := n3_; clear n0_ n1_ n2_ n3_; clear hb hbox hg; have hcz23_0 : w22.cell? ⟨gb148, 0, none⟩ = some (.int .i64 a0_0) := (blk_cell BK148.out 0).trans rfl; have hcz23_1 : w22.cell? ⟨gb148, 1, none⟩ = some (.slice A0_1 l0_1.length c0_1) := (blk_cell BK148.out 1).trans rfl; have hfz23_0 := blk_frozen BK148.out 0; have hfz23_1 := blk_frozen BK148.out 1) | ((with_reducible refine gate_callee (f := 14) rfl ?_); refine goesL_ (some 13) rfl rfl Try.func14 (by kernel_rfl) rfl #[.agg #[.int .i64 a0_0, .slice A0_1 l0_1.length c0_1], .int .i64 a1] rfl (by (try simp only [List.map_toArray, List.map_cons, List.map_nil]); first | done | rfl | (simp only [List.length_drop, List.length_take]; rfl)) ?_; (with_reducible refine (window_Check.calls a0_0 _ _ l0_1 a1 t149 _ ?side1 ?side2 A3.out).mono ?_); (case side1 => repeat (first | exact (Kd.C_below HR0_1.out HB.out) | (with_reducible refine Kd.C_alloc ?_ _) | (with_reducible refine Kd.C_drewN ?_ _) | (with_reducible refine Kd.C_drew ?_))); (case side2 => exact HC0_1.out); rintro e w24 ⟨rfl, hb⟩; refine ⟨_, rfl, ?_⟩; have n0_ := Aside0.mk (blk_below (g := gb148) (o := .cells #[.int .i64 a0_0, .slice A0_1 l0_1.length c0_1] 24 (0, 0)) (by (with_reducible repeat (first | refine blk_drewN ?_ _ | refine blk_drew ?_ | refine blk_alloc ?_ _)); exact BK148.out) hb); have n1_ := Aside0.mk (below_step (by repeat (first | (with_reducible first | exact HB.out | apply below_alloc | apply pw_below_drewN | apply below_drew1 | refine below_set ?_ GE148.out) | exact HB.out)) hb); clear BK148; clear HB; have BK148 := n0_; have HB := n1_; clear n0_ n1_; (try clear hb); (try clear hb2); (try clear hk); (try clear hi)))
    go_ret2
    exact ⟨_, by first | rfl | (simp [errW_none, errW_some] <;> rfl) | (simp [*, errW_none, errW_some] <;> rfl), by first | exact Kd.R_nil _ _ _ _ _ | exact Kd.N_nil _ _ _ _ _ | exact Kd.V_nil _ _ _ _ _ | exact Kd.Q_nil _ _ _ _ _ | exact Kd.S_nil _ _ _ _ _, by repeat (first | (with_reducible first | exact HB.out | apply below_alloc | apply pw_below_drewN | apply below_drew1 | refine below_set ?_ GE148.out) | exact HB.out)⟩
end Go.Proofs.Ytkdkjnjiianogaa.G
end

section
namespace Go.Proofs.Ytkdkjnjiianogaa.G
open WB Go.RowKit Go.Proofs.YtkdkjnjiianogaaW.PrintWords Go.Proofs.YtkdkjnjiianogaaW.PrintLast Go.Proofs.YtkdkjnjiianogaaW.PrintMore
attribute [local go_sem] max2_int min2_int max_two min_two max_three min_three max_four min_four   -- for this text's walks alone
set_option linter.unusedVariables false
set_option linter.unusedSimpArgs false
def window_Clone.f (a0_0 : Int) (l0_1 : List (S32)) : Option (Int × (List (S32))) := if l0_1.length < 1000000000 ∧ ∀ d ∈ l0_1, d.f2.length < 140737488355328 then some (a0_0, l0_1) else none
set_option maxHeartbeats 2000000 in
set_option maxRecDepth 100000 in
/-- slices.Clone: the cells are the same ones. -/
theorem clone_done (B : Option Addr) (c n : Nat) (css : List (List Value)) (w : World) (hr : ReadsRow (fun x cs => cs = x ∧ cs.length = 3 ∧ ∀ u ∈ cs, u.oneCell' = true) 3 w B n css) (hc : n ≤ c) (hsm : n < 1000000000) :
    Calls Try.prog 42 #[.slice B n c] w fun e w' => ∃ (v : Value), e = .returned v ∧ (Kd.raw 3).R 32 w' w.heap.size (fun _ => True) v css ∧ Below w.heap.size w w' := by
  have HL := Aside0.mk hsm
  have HCL := Aside0.mk hr.1
  have HCR := Aside0.mk hr
  clear hr hc hsm
  rcases B with _ | ad
  · have hn : n = 0 := by
      rcases Nat.eq_zero_or_pos n with h0 | h0
      · exact h0
      · obtain ⟨ad, h1, _⟩ := HCR.out.2.2 h0
        cases h1
    subst hn
    have heq : ∀ (W : World) (n c : Nat), (binOp .eql 22 (.slice none n c) (.slice none 0 0)).run Try.prog W = .ok (.bool true) W := fun W n c => Lib.run_eql_slice_nil W _ 32 none n c 0 0 Try.underlying22
    have hn2 : css = [] := List.eq_nil_of_length_eq_zero HCL.out
    subst hn2
    go_enter Try.func42, Try.ntmps42
    go_wp2
    go_ret
    exact ⟨_, rfl, Kd.R_nil _ _ _ _ _, Below.refl _ _⟩
  · have heq : ∀ (W : World) (a : Addr) (n c : Nat), (binOp .eql 22 (.slice (some a) n c) (.slice none 0 0)).run Try.prog W = .ok (.bool false) W := fun W a n c => Lib.run_eql_slice_nil W _ 32 (some a) n c 0 0 Try.underlying22
    go_enter Try.func42, Try.ntmps42
    go_wp2_with (first | ((with_reducible refine gate_dst (N := 5) rfl ?_); refine Kd.R_lit (Kd.raw 3) (w0 := w) w.heap.size 32 ?hg (N := 5) ?hd (xs := ([] : List (List Value))) (inner := []) (ok := fun _ => True) (okp := fun _ => True) ?hr (Reps.none _ _) (fun _ hk => hk) trivial (Below.refl _ _) (Nat.le_refl _) (by simp) ?_; (case hd => rfl); (case hg => rfl); (case hr => first | (go_simp; done) | (go_simp; rfl)); intro v1 w1 ho hb hg_ hnew_; clear hg_ hnew_; have HO := Aside0.mk ho; have HB1 := Aside0.mk hb; have HCR1 := Aside0.mk (ReadsRow.imp_ HCR.out hb (fun _ _ hp => hp)); clear ho hb; obtain ⟨Ao, co, eo⟩ := Kd.R_slice HO.out; subst eo) | ((with_reducible refine gate_builtin (b := .append) (xs := #[.tmp 5, .tmp 6]) rfl ?_); at_builtin; refine Kd.R_append_rows (Kd.raw 3) (w0 := w) w.heap.size rfl (.tmp 5) (.tmp 6) 22 32 (.agg #[.int .i64 0, .int .i64 0, .slice none 0 0]) 40 rfl Try.underlying22 info32 rfl (by decide) (by omega) _ ([] : List (List Value)) css _ _ _ (fun _ => True) (fun _ => False) rfl rfl HO.out HCR1.out (fun _ _ h => h) (fun _ h => h.elim) (fun _ _ => trivial) HB1.out HB1.out.size (by have := HL.out; simp; omega) ?_; intro v2 w2 ho2 hb2 hg2 hat2; rw [List.nil_append] at ho2; have HO2 := Aside0.mk ho2; have HB2 := Aside0.mk hb2; clear ho2 hb2 hg2 hat2))
    go_ret
    exact ⟨_, rfl, HO2.out, HB2.out⟩
structure CloneInv (w : World) (mark : Int) (l : List S32) (A : Option Addr) (c k : Nat) (rows : List (List Value)) (f : Nat → Nat) (wr : World) : Prop where
  len : rows.length = l.length
  raw : (Kd.raw 3).R 32 wr w.heap.size (fun _ => True) (.slice A l.length c) rows
  new : ∀ (j : Nat) x cs, j < k → l[j]? = some x → rows[j]? = some cs → k32.M wr w.heap.size (fun q => (True ∧ some q ≠ (Value.slice A l.length c).ownBlock) ∧ f q = j) x cs
  old : ∀ (j : Nat) x cs, k ≤ j → l[j]? = some x → rows[j]? = some cs → k32.K w x cs
  b0 : wr.heap[w.heap.size]? = some (.cells #[.int .i64 mark, .slice A l.length c] 24 (0, 0))
  b1 : wr.heap[w.heap.size + 1]? = some (.cells #[.int .i64 0, .slice none 0 0] 24 (0, 0))
  bel : Below w.heap.size w wr
set_option maxHeartbeats 2000000 in
set_option maxRecDepth 100000 in
theorem window_Clone.calls (a0_0 : Int) (A0_1 : Option Addr) (c0_1 : Nat) (l0_1 : List (S32)) (r1 : Int) (r2 : List (S32)) (w : World) (hr0_1 : Kd.C k32 w A0_1 l0_1.length l0_1) (hc0_1 : l0_1.length ≤ c0_1) (h : window_Clone.f a0_0 l0_1 = some (r1, r2)) :
    Calls Try.prog 30 #[.agg #[.int .i64 a0_0, .slice A0_1 l0_1.length c0_1]] w fun e w' => ∃ v1_ : Value, e = .returned (.agg #[.int .i64 r1, v1_]) ∧ Kd.S k32 32 w' w.heap.size (fun _ => True) v1_ r2 ∧ Below w.heap.size w w' := by
  unfold window_Clone.f at h
  split at h
  case isFalse => cases h
  case isTrue hl =>
  obtain ⟨⟨⟩⟩ := h
  have HL := Aside0.mk hl.1
  have HDA := Aside0.mk hl.2
  obtain ⟨css, hcl, hcr, hK⟩ := Kd.reads_raw hr0_1 (fun y c hk => ⟨k32.K_len hk, k32.K_one hk⟩)
  have HCL := Aside0.mk hcl
  have HCR := Aside0.mk hcr
  have HK := Aside0.mk hK
  have HC := Aside0.mk hc0_1
  clear hr0_1 hc0_1 hl hcl hcr hK
  go_enter Try.func30, Try.ntmps30
  go_wp2_with (go_at_call 42; (with_reducible refine (clone_done A0_1 c0_1 l0_1.length css _ ?hr1 HC.out HL.out).mono ?_); (case hr1 => exact ReadsRow.imp_ HCR.out (below_alloc (below_alloc (Below.refl _ _) _) _) (fun _ _ hp => hp)); rintro e w1 ⟨v1, rfl, hR, hb⟩; obtain ⟨A1, c1, rfl⟩ := Kd.R_slice hR; rw [HCL.out] at hR ⊢; have HRW := Aside0.mk (Kd.R_lower hR (show w.heap.size ≤ _ by simp; omega)); have HB1 := Aside0.mk (below_then (below_alloc (below_alloc (Below.refl _ _) _) _) (by simp; omega) hb); have BK1 := Aside0.mk ((hb.block (w.heap.size + 1) (by simp)).trans (heap_new2 w _ _)); have BK0 := Aside0.mk ((hb.block w.heap.size (by simp; omega)).trans (blk_alloc (heap_new1 w _) _)); have hcz0 : w1.cell? ⟨w.heap.size, 0, none⟩ = some (.int .i64 a0_0) := (blk_cell BK0.out 0).trans rfl; have hcz1 : w1.cell? ⟨w.heap.size, 1, none⟩ = some (.slice A0_1 l0_1.length c0_1) := (blk_cell BK0.out 1).trans rfl; have hfz1 := blk_frozen BK0.out 1; clear hR hb)
  go_loopw [12] (fun v12 wr => ∃ (k : Nat) (rows : List (List Value)) (f : Nat → Nat), v12 = .int .i64 k ∧ k ≤ l0_1.length ∧ Aside0 (CloneInv w a0_0 l0_1 A1 c1 k rows f wr)) (fun v12 _ => l0_1.length - (intOf v12).toNat)
  case atStart =>
    refine ⟨0, css, fun _ => 0, rfl, by omega, ⟨HCL.out, ?_, fun j x cs hj => by omega, fun j x cs _ hx hc => HK.out j x cs hx hc, ?_, ?_, below_set HB1.out (by simp)⟩⟩
    · exact Kd.R_set HRW.out BK0.out (by decide) 1 _
    · exact blk_put (cs := #[.int .i64 a0_0, .slice A0_1 l0_1.length c0_1]) BK0.out 1 _ rfl
    · exact blk_far BK1.out (by simp) _
  case round =>
    obtain ⟨k, rows, f, rfl, hk, HI⟩ := hrel
    by_cases hlt : k < l0_1.length
    · have b1 : decide ((k : Int) < (l0_1.length : Int)) = true := decide_eq_true (by omega)
      have b1' : decide (k < l0_1.length) = true := decide_eq_true hlt
      obtain ⟨g, rfl⟩ : ∃ g, A1 = some ⟨g, 0, none⟩ := by
        rcases A1 with _ | ad
        · obtain ⟨A, c, he, _, hC⟩ := Kd.R_reads HI.out.raw
          rw [HI.out.len] at he hC
          obtain ⟨ad, h1, _⟩ := hC.2.2 (by omega)
          injection he with he
          rw [h1] at he
          cases he
        · obtain ⟨g, rfl⟩ := Kd.R_head HI.out.raw
          exact ⟨g, rfl⟩
      obtain ⟨cs, hc1, hc2, hc3, hc4⟩ := Kd.R_elem HI.out.raw [] (k : Int) (by omega) (by omega)
      have hrk : rows[k]? = some cs := by
        have h5 : cs = rows.getD k [] := hc2.1
        rw [h5, List.getD_eq_getElem?_getD, List.getElem?_eq_getElem (by rw [HI.out.len]; exact hlt)]
        rfl
      obtain ⟨d, hd⟩ : ∃ d, l0_1[k]? = some d := ⟨_, List.getElem?_eq_getElem hlt⟩
      obtain ⟨A2, c2, rfl, l2, g2⟩ := k32_open (k32.K_below HI.out.bel (HI.out.old k d cs (Nat.le_refl _) hd hrk))
      have q0 : wr.cell? ⟨g, k * 3, none⟩ = some (.int .i64 d.f0) := hc3 0 _ rfl
      have q1 : wr.cell? ⟨g, k * 3 + 1, none⟩ = some (.int .i64 d.f1) := hc3 1 _ rfl
      have q2 : wr.cell? ⟨g, k * 3 + 2, none⟩ = some (.slice A2 d.f2.length c2) := hc3 2 _ rfl
      have z0 : wr.frozen? ⟨g, k * 3, none⟩ = false := hc4 0
      have z1 : wr.frozen? ⟨g, k * 3 + 1, none⟩ = false := hc4 1
      have z2 : wr.frozen? ⟨g, k * 3 + 2, none⟩ = false := hc4 2
      have y1 : wr.cell? ⟨w.heap.size, 1, none⟩ = some (.slice (some ⟨g, 0, none⟩) l0_1.length c1) := (blk_cell HI.out.b0 1).trans rfl
      have HD := Aside0.mk hd
      have L2 := Aside0.mk l2
      have G2 := Aside0.mk g2
      have HRK := Aside0.mk hrk
      clear hc1 hc2 hc3 hc4 hd l2 g2 hrk
      go_wp2
      have x0 := cell_in1 wr #[.int .i64 d.f0, .int .i64 d.f1, .slice A2 d.f2.length c2] 32 0
      have x1 := cell_in1 wr #[.int .i64 d.f0, .int .i64 d.f1, .slice A2 d.f2.length c2] 32 1
      have x2 := cell_in1 wr #[.int .i64 d.f0, .int .i64 d.f1, .slice A2 d.f2.length c2] 32 2
      have HW := Aside0.mk (below_alloc (Below.refl wr.heap.size wr) (.cells #[.int .i64 d.f0, .int .i64 d.f1, .slice A2 d.f2.length c2] 32))
      have hws : (wr.alloc (.cells #[.int .i64 d.f0, .int .i64 d.f1, .slice A2 d.f2.length c2] 32)).heap.size = wr.heap.size + 1 := by simp
      obtain ⟨W0, hW0⟩ : ∃ W0, W0 = wr.alloc (.cells #[.int .i64 d.f0, .int .i64 d.f1, .slice A2 d.f2.length c2] 32) := ⟨_, rfl⟩
      rw [← hW0] at x0 x1 x2 HW hws ⊢
      simp at x0 x1 x2
      have hsz : w.heap.size + 1 < wr.heap.size := blk_lt HI.out.b1
      have y1' : W0.cell? ⟨w.heap.size, 1, none⟩ = some (.slice (some ⟨g, 0, none⟩) l0_1.length c1) := (HW.out.cell (p := ⟨w.heap.size, 1, none⟩) (by simp; omega)).trans y1
      have hgl : g < wr.heap.size := Kd.R_lt HI.out.raw g (by simp [Value.ownBlock])
      have t0 : W0.cell? ⟨g, k * 3, none⟩ = some (.int .i64 d.f0) := (HW.out.cell (p := ⟨g, k * 3, none⟩) (by simpa using hgl)).trans q0
      have t1 : W0.cell? ⟨g, k * 3 + 1, none⟩ = some (.int .i64 d.f1) := (HW.out.cell (p := ⟨g, k * 3 + 1, none⟩) (by simpa using hgl)).trans q1
      have t2 : W0.cell? ⟨g, k * 3 + 2, none⟩ = some (.slice A2 d.f2.length c2) := (HW.out.cell (p := ⟨g, k * 3 + 2, none⟩) (by simpa using hgl)).trans q2
      have G0 := Aside0.mk (Kd.C_below G2.out HW.out)
      have HCD : Aside0 (window_clone.f d.f0 d.f1 d.f2 = some (d.f0, d.f1, d.f2)) := ⟨by unfold window_clone.f slices_Clone_byte_byte.f; rw [if_pos (HDA.out d (List.mem_of_getElem? HD.out))]; rfl⟩
      clear y1 q0 q1 q2 z0 z1 z2 hW0
      have hn1 : w.heap.size ≠ g := fun he => Kd.R_ne HI.out.raw HI.out.b0 (by decide) (by simp [Value.ownBlock, he])
      have hn1' : g ≠ w.heap.size := Ne.symm hn1
      have hn2 : wr.heap.size ≠ g := by omega
      have hn2' : g ≠ wr.heap.size := by omega
      go_region_held3 (fun w' => w'.cell? ⟨w.heap.size, 1, none⟩ = some (.slice (some ⟨g, 0, none⟩) l0_1.length c1) ∧ w'.cell? ⟨wr.heap.size, 0, none⟩ = some (.int .i64 d.f0) ∧ w'.cell? ⟨wr.heap.size, 1, none⟩ = some (.int .i64 d.f1) ∧ w'.cell? ⟨wr.heap.size, 2, none⟩ = some (.slice A2 d.f2.length c2)) (go_keep)
        ((go_at_call 29; (with_reducible refine (window_clone.calls d.f0 d.f1 A2 c2 d.f2 d.f0 d.f1 d.f2 _ ?hr L2.out HCD.out).mono ?_); (case hr => exact Kd.C_below G0.out (by repeat (first | exact Below.refl _ _ | apply below_drew1 | apply pw_below_drewN))); rintro e w2 ⟨v, rfl, ho, hb⟩; obtain ⟨Ao, co, rfl⟩ := Kd.R_slice ho; have hgl0 : g < W0.drew.heap.size := (by show g < W0.heap.size; omega); have r0 : w2.cell? ⟨g, k * 3, none⟩ = some (.int .i64 d.f0) := (hb.cell (p := ⟨g, k * 3, none⟩) hgl0).trans t0; have r1 : w2.cell? ⟨g, k * 3 + 1, none⟩ = some (.int .i64 d.f1) := (hb.cell (p := ⟨g, k * 3 + 1, none⟩) hgl0).trans t1; have r2 : w2.cell? ⟨g, k * 3 + 2, none⟩ = some (.slice A2 d.f2.length c2) := (hb.cell (p := ⟨g, k * 3 + 2, none⟩) hgl0).trans t2; obtain ⟨csz, hz1, hz2, hz3, hz4⟩ := Kd.R_elem (Kd.R_below (Kd.R_drew (Kd.R_below HI.out.raw HW.out)) hb) [] (k : Int) (by omega) (by omega); have z0 : w2.frozen? ⟨g, k * 3, none⟩ = false := hz4 0; have z1 : w2.frozen? ⟨g, k * 3 + 1, none⟩ = false := hz4 1; have z2 : w2.frozen? ⟨g, k * 3 + 2, none⟩ = false := hz4 2; have hwl : w.heap.size < W0.drew.heap.size := (by show w.heap.size < W0.heap.size; omega); have hwr : wr.heap.size < W0.drew.heap.size := (by show wr.heap.size < W0.heap.size; omega); have s1 : w2.cell? ⟨w.heap.size, 1, none⟩ = some (.slice (some ⟨g, 0, none⟩) l0_1.length c1) := (hb.cell (p := ⟨w.heap.size, 1, none⟩) hwl).trans y1'; have s2 : w2.cell? ⟨wr.heap.size, 0, none⟩ = some (.int .i64 d.f0) := (hb.cell (p := ⟨wr.heap.size, 0, none⟩) hwr).trans x0; have s3 : w2.cell? ⟨wr.heap.size, 1, none⟩ = some (.int .i64 d.f1) := (hb.cell (p := ⟨wr.heap.size, 1, none⟩) hwr).trans x1; have s4 : w2.cell? ⟨wr.heap.size, 2, none⟩ = some (.slice A2 d.f2.length c2) := (hb.cell (p := ⟨wr.heap.size, 2, none⟩) hwr).trans x2; clear hz1 hz2 hz3 hz4))
      clear s1 s2 s3 s4 r0 r1 r2 t0 t1 t2 x0 x1 x2 y1' z0 z1 z2
      have HB := Aside0.mk hb
      have HO := Aside0.mk ho
      clear hb ho
      have hwk : wrap64 ((k : Int) + 1) = ((k + 1 : Nat) : Int) := by have := HL.out; unfold wrap64; omega
      go_wp2
      go_roundw
      case rel =>
        have RW2 := Kd.R_below (Kd.R_drew (Kd.R_below HI.out.raw HW.out)) HB.out
        obtain ⟨csz, hz1, hz2, hz3, hz4⟩ := Kd.R_elem RW2 [] (k : Int) (by omega) (by omega)
        have hgw : g < W0.drew.heap.size := by show g < W0.heap.size; omega
        have hone : ∀ u ∈ [Value.int .i64 d.f0, .int .i64 d.f1, .slice Ao d.f2.length co], u.oneCell' = true := by
          intro u hu
          simp at hu
          rcases hu with rfl | rfl | rfl <;> rfl
        have hseg := Kd.R_seg RW2 (k : Int) (by omega) (by omega) (c := csz) (seg := [.int .i64 d.f0, .int .i64 d.f1, .slice Ao d.f2.length co]) (j := 0) (x' := [.int .i64 d.f0, .int .i64 d.f1, .slice Ao d.f2.length co]) (okp := fun _ => False) hz1 hz3 (by show 0 + 3 ≤ 3; omega) (by
          have h6 : csz.drop (0 + [Value.int .i64 d.f0, .int .i64 d.f1, .slice Ao d.f2.length co].length) = [] := List.drop_of_length_le (by rw [hz1]; exact Nat.le_refl _)
          rw [h6, List.take_zero]
          exact ⟨rfl, rfl, hone⟩) (fun _ hk => hk.elim)
        obtain ⟨hraw, hgr⟩ := hseg
        have hBW : Below wr.heap.size wr w2 := below_then (below_drew HW.out) (by show wr.heap.size ≤ W0.heap.size; omega) HB.out
        have hmv : ∀ q, q < wr.heap.size → q ≠ g → (w2.setCells g ((k : Int).toNat * 3 + 0) [.int .i64 d.f0, .int .i64 d.f1, .slice Ao d.f2.length co]).heap[q]? = wr.heap[q]? := fun q hq hn => (hgr.block q (by have := hBW.size; omega) (by simpa using hn)).trans (hBW.block q hq)
        refine ⟨k + 1, rows.set k [.int .i64 d.f0, .int .i64 d.f1, .slice Ao d.f2.length co], fun q => if q < W0.heap.size then f q else k, by rw [hwk], by omega, ⟨?_⟩⟩
        refine ⟨by rw [List.length_set]; exact HI.out.len, hraw, fun j x cs hj hx hc => ?_, fun j x cs hj hx hc => ?_, ?_, ?_, ?_⟩
        · rcases Nat.lt_or_ge j k with hjk | hjk
          · rw [List.getElem?_set_ne (by omega)] at hc
            have h7 := k32.M_bound (HI.out.new j x cs hjk hx hc)
            have h8 := k32.M_move (w1 := w2.setCells g ((k : Int).toNat * 3 + 0) [.int .i64 d.f0, .int .i64 d.f1, .slice Ao d.f2.length co]) (fun q hq => hmv q hq.2.2.1 (fun he => hq.1.1.2 (by simp [Value.ownBlock, he]))) h7
            exact k32.M_mono (fun q hq => ⟨hq.1.1, by have h9 := hq.2.2.1; rw [if_pos (by omega)]; exact hq.1.2⟩) h8
          · obtain rfl : j = k := by omega
            rw [List.getElem?_set_self (by rw [HI.out.len]; exact hlt)] at hc
            rw [HD.out] at hx
            injection hc with hc
            injection hx with hx
            subst hc hx
            have h7 := Kd.R_step (Kd.R_mono (ok' := fun q => (True ∧ some q ≠ (Value.slice (some ⟨g, 0, none⟩) l0_1.length c1).ownBlock) ∧ (if q < W0.heap.size then f q else j) = j) (Kd.R_bound HO.out) (fun q hq => by
              have h9 : W0.heap.size ≤ q := hq.2.1
              exact ⟨⟨trivial, fun he => by simp [Value.ownBlock] at he; omega⟩, by rw [if_neg (by omega)]⟩)) (w1 := w2.setCells g ((j : Int).toNat * 3 + 0) [.int .i64 d.f0, .int .i64 d.f1, .slice Ao d.f2.length co]) (fun q hq hlt => hgr.block q hlt (fun he => hq.1.2 (by rw [he]; rfl)))
            exact k32_mkM _ _ _ d (Kd.R_lower h7 (by show w.heap.size ≤ W0.heap.size; omega))
        · rw [List.getElem?_set_ne (by omega)] at hc
          exact HI.out.old j x cs (by omega) hx hc
        · exact (hmv _ (by omega) hn1).trans HI.out.b0
        · exact (hmv _ (by omega) (fun he => Kd.R_ne HI.out.raw HI.out.b1 (by decide) (by simp [Value.ownBlock, he]))).trans HI.out.b1
        · have hbg : w.heap.size ≤ g := Kd.R_base HI.out.raw g (by simp [Value.ownBlock])
          exact below_set (below_set (below_set (below_then HI.out.bel HI.out.bel.size hBW) hbg) hbg) hbg
      case measure => rw [hwk]; simp [intOf]; omega
    · have b1 : decide ((k : Int) < (l0_1.length : Int)) = false := decide_eq_false (by omega)
      have b1' : decide (k < l0_1.length) = false := decide_eq_false hlt
      have y0 : wr.cell? ⟨w.heap.size, 0, none⟩ = some (.int .i64 a0_0) := (blk_cell HI.out.b0 0).trans rfl
      have y1 : wr.cell? ⟨w.heap.size, 1, none⟩ = some (.slice A1 l0_1.length c1) := (blk_cell HI.out.b0 1).trans rfl
      have hlt1 : w.heap.size + 1 < wr.heap.size := blk_lt HI.out.b1
      have hcz0 : wr.cell? ⟨w.heap.size + 1, 0, none⟩ = some (.int .i64 0) := (blk_cell HI.out.b1 0).trans rfl
      have hcz1 : wr.cell? ⟨w.heap.size + 1, 1, none⟩ = some (.slice none 0 0) := (blk_cell HI.out.b1 1).trans rfl
      have hfz0 := blk_frozen HI.out.b1 0
      have hfz1 := blk_frozen HI.out.b1 1
      go_wp2
      have hS : Kd.S k32 32 wr w.heap.size (fun _ => True) (.slice A1 l0_1.length c1) l0_1 := S_close (t := fun j => j) (fun _ _ => trivial) HI.out.len HI.out.raw (fun i j _ _ h => h) (fun j x cs hx hc => HI.out.new j x cs (by have := (List.getElem?_eq_some_iff.1 hx).1; omega) hx hc)
      refine bodyPost_ret (results_cell_row rfl _ _ (w.heap.size + 1) 24 #[.int .i64 a0_0, .slice A1 l0_1.length c1] (0, 0) _ rfl (blk_put (cs := #[.int .i64 a0_0, .slice none 0 0]) (blk_put (cs := #[.int .i64 0, .slice none 0 0]) HI.out.b1 0 _ rfl) 1 _ rfl) Try.underlying24 rfl (by kernel_rfl)) rfl ?_
      exact ⟨_, rfl, Kd.S_set (Kd.S_set hS HI.out.b1 (by decide) 0 _) (blk_put (cs := #[.int .i64 0, .slice none 0 0]) HI.out.b1 0 _ rfl) (by decide) 1 _, below_set (below_set HI.out.bel (by simp)) (by simp)⟩
end Go.Proofs.Ytkdkjnjiianogaa.G
end
