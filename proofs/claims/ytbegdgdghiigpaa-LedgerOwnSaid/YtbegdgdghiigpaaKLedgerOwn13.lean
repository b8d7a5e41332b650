/- LedgerOwn: texts of this claim, packed: what the kit's print has written for it and own texts, without what its proof does not reach. -/
import Derived.Test.YtbegdgdghiigpaaKLedgerOwn12
set_option linter.unusedVariables false
set_option linter.unusedSimpArgs false
set_option linter.unusedSectionVars false
section
namespace Go.Proofs.Ytbegdgdghiigpaa.G
open WB Go.RowKit Go.Proofs.YtbegdgdghiigpaaW.PrintWords Go.Proofs.YtbegdgdghiigpaaW.PrintLast Go.Proofs.YtbegdgdghiigpaaW.PrintMore
attribute [local go_sem] max2_int min2_int max_two min_two max_three min_three max_four min_four   -- for this text's walks alone
set_option linter.unusedVariables false
set_option linter.unusedSimpArgs false
attribute [local go_sem high] eqA35
mutual
def ledger_Check.j0 : Nat → Int → Int → Int → Int → Int → Option (Int)
  | 0, _, _, _, _, _ => none
  | k + 1, x5, x108000, x108001, x108002, x108003 => if (mn x108001 x108002) < 0 then (ledger_Check.j1 k true x108000 x108001 x108002 x108003) else (if (mx x108001 x108002) ≥ 16 then (ledger_Check.j1 k true x108000 x108001 x108002 x108003) else (if x108003 < x5 then (ledger_Check.j1 k true x108000 x108001 x108002 x108003) else (ledger_Check.j1 k (decide (x108003 > 1073741824)) x108000 x108001 x108002 x108003)))
def ledger_Check.j1 : Nat → Bool → Int → Int → Int → Int → Option (Int)
  | 0, _, _, _, _, _ => none
  | k + 1, x18, x108000, x108001, x108002, x108003 => if x18 = true then (some 4) else ((ledger_used.f x108000 x108001 x108002 x108003).bind fun bt110 => (if (!(x108000 == bt110.1) || (!(x108001 == bt110.2.1) || (!(x108002 == bt110.2.2.1) || (!(x108003 == bt110.2.2.2))))) = true then (some 9) else (some 0)))
end
def ledger_Check.f (k : Nat) (a0_0 : Int) (a0_1 : Int) (a0_2 : Int) (a0_3 : Int) : Option (Int) := (ledger_Once.f a0_0).bind fun bt108 => (if bt108.2 = 0 then (if a0_0 = 2 then (ledger_Check.j0 k 0 a0_0 a0_1 a0_2 a0_3) else (ledger_Check.j0 k (-1073741824) a0_0 a0_1 a0_2 a0_3)) else (some bt108.2))
theorem ledger_Check.mono_l : ∀ k, (∀ y0 y1 y2 y3 y4, LeO (ledger_Check.j0 k y0 y1 y2 y3 y4) (ledger_Check.j0 (k + 1) y0 y1 y2 y3 y4)) ∧ (∀ y0 y1 y2 y3 y4, LeO (ledger_Check.j1 k y0 y1 y2 y3 y4) (ledger_Check.j1 (k + 1) y0 y1 y2 y3 y4))
  | 0 => ⟨fun _ _ _ _ _ r h => by simp [ledger_Check.j0] at h, fun _ _ _ _ _ r h => by simp [ledger_Check.j1] at h⟩
  | k + 1 => by
    obtain ⟨ih0, ih1⟩ := ledger_Check.mono_l k
    refine ⟨?_, ?_⟩
    · intro y0 y1 y2 y3 y4
      unfold ledger_Check.j0
      repeat' first
      | (with_reducible exact ih0 _ _ _ _ _)
      | (with_reducible exact ih1 _ _ _ _ _)
      | (with_reducible exact LeO.refl _)
      | (with_reducible exact LeO.none _)
      | (with_reducible refine LeO.ite ?_ ?_)
      | (with_reducible refine LeO.bind ?_ (fun _ => ?_))
      | exact ih0 _ _ _ _ _
      | exact ih1 _ _ _ _ _
      | exact LeO.none _
      | refine LeO.ite ?_ ?_
      | refine LeO.bind ?_ (fun _ => ?_)
    · intro y0 y1 y2 y3 y4
      unfold ledger_Check.j1
      repeat' first
      | (with_reducible exact ih0 _ _ _ _ _)
      | (with_reducible exact ih1 _ _ _ _ _)
      | (with_reducible exact LeO.refl _)
      | (with_reducible exact LeO.none _)
      | (with_reducible refine LeO.ite ?_ ?_)
      | (with_reducible refine LeO.bind ?_ (fun _ => ?_))
      | exact ih0 _ _ _ _ _
      | exact ih1 _ _ _ _ _
      | exact LeO.none _
      | refine LeO.ite ?_ ?_
      | refine LeO.bind ?_ (fun _ => ?_)
theorem ledger_Check.mono : ∀ a0 a1 a2 a3 k, LeO (ledger_Check.f k a0 a1 a2 a3) (ledger_Check.f (k + 1) a0 a1 a2 a3) := by
  intro a0 a1 a2 a3 k
  obtain ⟨ih0, ih1⟩ := ledger_Check.mono_l k
  unfold ledger_Check.f
  repeat' first
      | (with_reducible exact ih0 _ _ _ _ _)
      | (with_reducible exact ih1 _ _ _ _ _)
      | (with_reducible exact LeO.refl _)
      | (with_reducible exact LeO.none _)
      | (with_reducible refine LeO.ite ?_ ?_)
      | (with_reducible refine LeO.bind ?_ (fun _ => ?_))
      | exact ih0 _ _ _ _ _
      | exact ih1 _ _ _ _ _
      | exact LeO.none _
      | refine LeO.ite ?_ ?_
      | refine LeO.bind ?_ (fun _ => ?_)
set_option maxHeartbeats 8000000 in
set_option maxRecDepth 100000 in
theorem ledger_Check.calls (k : Nat) (a0_0 : Int) (a0_1 : Int) (a0_2 : Int) (a0_3 : Int) (r : Int) (w : World) (h : ledger_Check.f k a0_0 a0_1 a0_2 a0_3 = some r) :
    Calls Try.prog 18 #[.agg #[.int .i64 a0_0, .int .i64 a0_1, .int .i64 a0_2, .int .i64 a0_3]] w fun e w' => e = .returned (.int .i64 r) ∧ Below w.heap.size w w' := by
  have hu35 := Try.underlying35
  have HB := Aside0.mk (Below.refl w.heap.size w)
  have H : ((ledger_Once.f a0_0).bind fun bt108 => (if bt108.2 = 0 then (if a0_0 = 2 then (ledger_Check.j0 k 0 a0_0 a0_1 a0_2 a0_3) else (ledger_Check.j0 k (-1073741824) a0_0 a0_1 a0_2 a0_3)) else (some bt108.2))) = some r := h
  clear h
  replace H := Option.bind_eq_some_iff.mp H
  obtain ⟨⟨t108, t109⟩, A20, H⟩ := H
  replace H : (if t109 = 0 then (if a0_0 = 2 then (ledger_Check.j0 k 0 a0_0 a0_1 a0_2 a0_3) else (ledger_Check.j0 k (-1073741824) a0_0 a0_1 a0_2 a0_3)) else (some t109)) = some r := H
  have A2 := Aside0.mk A20
  clear A20
  by_cases c3 : t109 = 0
  · rw [if_pos c3] at H
    have c3b0 : (t109 == 0) = true := beq_iff_eq.mpr c3
    have c3b1 : (t109 != 0) = false := bne_eq_false_iff_eq.mpr c3
    clear c3
    have HC4 := Aside0.mk H
    clear H
    go_enter Try.func18, Try.ntmps18
    go_upto_if 17 with (first | ((with_reducible refine gate_dst (N := 1) rfl ?_); (try (refine gate_guard (by rfl) ?_; dsimp only)); refine box_event ?hg (N := 1) ?hd (cs := #[.int .i64 a0_0, .int .i64 a0_1, .int .i64 a0_2, .int .i64 a0_3]) (t := 35) ?hr ?_; (case hd => rfl); (case hg => rfl); (case hr => first | (go_simp; done) | (go_simp; rfl)); intro gb107 hg w5 hbox hb; have n0_ := Aside0.mk (below_step (by repeat (first | (with_reducible first | exact HB.out | apply below_alloc | apply pw_below_drewN | apply below_drew1) | exact HB.out)) hb); have n1_ := Aside0.mk (hbox); have n2_ := Aside0.mk ((by rw [hg]; exact (below_size (by repeat (first | (with_reducible first | exact HB.out | apply below_alloc | apply pw_below_drewN | apply below_drew1) | exact HB.out))) : w.heap.size ≤ gb107)); have n3_ := Aside0.mk ((by rw [hg]; exact (below_size (by repeat (first | (with_reducible first | exact HB.out | apply below_alloc | apply pw_below_drewN | apply below_drew1) | exact HB.out))) : w.heap.size ≤ gb107)); clear HB; have HB := n0_; have BK107 := n1_; have GW107 := n2_; have GE107 := n3_; clear n0_ n1_ n2_ n3_; clear hb hbox hg; have hcz6_0 : w5.cell? ⟨gb107, 0, none⟩ = some (.int .i64 a0_0) := (blk_cell BK107.out 0).trans rfl; have hcz6_1 : w5.cell? ⟨gb107, 1, none⟩ = some (.int .i64 a0_1) := (blk_cell BK107.out 1).trans rfl; have hcz6_2 : w5.cell? ⟨gb107, 2, none⟩ = some (.int .i64 a0_2) := (blk_cell BK107.out 2).trans rfl; have hcz6_3 : w5.cell? ⟨gb107, 3, none⟩ = some (.int .i64 a0_3) := (blk_cell BK107.out 3).trans rfl; have hfz6_0 := blk_frozen BK107.out 0; have hfz6_1 := blk_frozen BK107.out 1; have hfz6_2 := blk_frozen BK107.out 2; have hfz6_3 := blk_frozen BK107.out 3) | ((with_reducible refine gate_callee (f := 27) rfl ?_); refine goesL_ (some 9) rfl rfl Try.func27 (by kernel_rfl) rfl #[.int .i64 a0_0] rfl (by (try simp only [List.map_toArray, List.map_cons, List.map_nil]); first | done | rfl | (simp only [List.length_drop, List.length_take]; rfl)) ?_; (with_reducible refine (ledger_Once.calls a0_0 t108 t109 _ A2.out).mono ?_); rintro e w' ⟨rfl, ⟨nd, rfl⟩⟩; refine ⟨_, rfl, ?_⟩))
    (try simp only [Act.put, List.setIfInBounds_toArray, List.set_cons_zero, List.set_cons_succ])
    go_cut [5] (fun v5 wc => ∃ (kq : Nat) (x5_3 : Int), v5 = .int .i64 x5_3 ∧ Aside0 (ledger_Check.j0 kq x5_3 a0_0 a0_1 a0_2 a0_3 = some r) ∧ Aside0 (kq ≤ k) ∧ Aside0 (wc.heap[gb107]? = some (.cells #[.int .i64 a0_0, .int .i64 a0_1, .int .i64 a0_2, .int .i64 a0_3] 35 (0, 0))) ∧ Aside0 (Below w.heap.size w wc))
    case first =>
      have H := HC4.out
      clear HC4
      by_cases c7 : a0_0 = 2
      · rw [if_pos c7] at H
        have c7b0 : (a0_0 == 2) = true := beq_iff_eq.mpr c7
        have c7b1 : (a0_0 != 2) = false := bne_eq_false_iff_eq.mpr c7
        clear c7
        (first | rw [c7b0] | (simp only [i64_w, i32_w]; rw [c7b0]) | skip)
        have H' := Aside0.mk H
        clear H
        go_wp2
        go_meet
        case rel => exact ⟨_, (0), (by first | rfl | (simp; done) | (simp [*]; done)), H', ⟨by first | omega | exact Nat.le_refl _⟩, ⟨by (with_reducible repeat (first | refine blk_drewN ?_ _ | refine blk_drew ?_ | refine blk_alloc ?_ _)); exact BK107.out⟩, ⟨by repeat (first | (with_reducible first | exact HB.out | apply below_alloc | apply pw_below_drewN | apply below_drew1 | refine below_set ?_ GE107.out) | exact HB.out)⟩⟩
      · rw [if_neg c7] at H
        have c7b0 : (a0_0 == 2) = false := beq_eq_false_iff_ne.mpr c7
        have c7b1 : (a0_0 != 2) = true := bne_iff_ne.mpr c7
        (first | rw [c7b0] | (simp only [i64_w, i32_w]; rw [c7b0]) | skip)
        have H' := Aside0.mk H
        clear H
        go_wp2
        go_meet
        case rel => exact ⟨_, ((-1073741824)), (by first | rfl | (simp; done) | (simp [*]; done)), H', ⟨by first | omega | exact Nat.le_refl _⟩, ⟨by (with_reducible repeat (first | refine blk_drewN ?_ _ | refine blk_drew ?_ | refine blk_alloc ?_ _)); exact BK107.out⟩, ⟨by repeat (first | (with_reducible first | exact HB.out | apply below_alloc | apply pw_below_drewN | apply below_drew1 | refine below_set ?_ GE107.out) | exact HB.out)⟩⟩
    case rest =>
      clear HC4
      try clear c1
      try clear c2
      try clear p2
      try clear c3
      try clear c3b0
      try clear c3b1
      try clear c7
      try clear c7b0
      try clear c7b1
      try clear hcz6_0
      try clear hcz6_1
      try clear hcz6_2
      try clear hcz6_3
      try clear hfz6_0
      try clear hfz6_1
      try clear hfz6_2
      try clear hfz6_3
      obtain ⟨kq, x5_3, rfl, HA, HJ3, BK107, HB⟩ := hcut
      cases kq with
      | zero => exact absurd HA.out (by simp [ledger_Check.j0])
      | succ kj3 =>
        have H := HA.out
        clear HA
        simp only [ledger_Check.j0] at H
        have HC8 := Aside0.mk H
        clear H
        go_upto_region 7 with (fail)
        go_cut [18] (fun v18 wc => ∃ (kq : Nat) (x18_7 : Bool), v18 = .bool x18_7 ∧ Aside0 (ledger_Check.j1 kq x18_7 a0_0 a0_1 a0_2 a0_3 = some r) ∧ Aside0 (kq ≤ kj3) ∧ Aside0 (wc.heap[gb107]? = some (.cells #[.int .i64 a0_0, .int .i64 a0_1, .int .i64 a0_2, .int .i64 a0_3] 35 (0, 0))) ∧ Aside0 (Below w.heap.size w wc))
        case first =>
          have H := HC8.out
          clear HC8
          obtain ⟨ji9, hji9⟩ : ∃ j_ : Int, (mn a0_1 a0_2) = j_ := ⟨_, rfl⟩
          replace H : (if (ji9) < 0 then (ledger_Check.j1 kj3 true a0_0 a0_1 a0_2 a0_3) else (if (mx a0_1 a0_2) ≥ 16 then (ledger_Check.j1 kj3 true a0_0 a0_1 a0_2 a0_3) else (if a0_3 < x5_3 then (ledger_Check.j1 kj3 true a0_0 a0_1 a0_2 a0_3) else (ledger_Check.j1 kj3 (decide (a0_3 > 1073741824)) a0_0 a0_1 a0_2 a0_3)))) = some r := by first | (rw [hji9] at H; exact H) | (simp only [hji9] at H ⊢; exact H)
          have hji9_ : (if a0_2 < a0_1 then a0_2 else a0_1) = ji9 := hji9
          by_cases c10 : (ji9) < 0
          · rw [if_pos c10] at H
            have c10b0 : decide ((ji9) < 0) = true := decide_eq_true c10
            clear c10
            (first | rw [c10b0] | (simp only [i64_w, i32_w]; rw [c10b0]) | skip)
            have H' := Aside0.mk H
            clear H
            have hcz11_0 : wc.cell? ⟨gb107, 0, none⟩ = some (.int .i64 a0_0) := (blk_cell BK107.out 0).trans rfl
            have hcz11_1 : wc.cell? ⟨gb107, 1, none⟩ = some (.int .i64 a0_1) := (blk_cell BK107.out 1).trans rfl
            have hcz11_2 : wc.cell? ⟨gb107, 2, none⟩ = some (.int .i64 a0_2) := (blk_cell BK107.out 2).trans rfl
            have hcz11_3 : wc.cell? ⟨gb107, 3, none⟩ = some (.int .i64 a0_3) := (blk_cell BK107.out 3).trans rfl
            have hfz11_0 := blk_frozen BK107.out 0
            have hfz11_1 := blk_frozen BK107.out 1
            have hfz11_2 := blk_frozen BK107.out 2
            have hfz11_3 := blk_frozen BK107.out 3
            go_wp2
            go_meet
            case rel => exact ⟨_, (true), (by first | rfl | (simp; done) | (simp [*]; done)), H', ⟨by have := HJ3.out; first | omega | exact Nat.le_refl _⟩, ⟨by (with_reducible repeat (first | refine blk_drewN ?_ _ | refine blk_drew ?_ | refine blk_alloc ?_ _)); exact BK107.out⟩, ⟨by repeat (first | (with_reducible first | exact HB.out | apply below_alloc | apply pw_below_drewN | apply below_drew1 | refine below_set ?_ GE107.out) | exact HB.out)⟩⟩
          · rw [if_neg c10] at H
            have c10b0 : decide ((ji9) < 0) = false := decide_eq_false c10
            clear c10
            (first | rw [c10b0] | (simp only [i64_w, i32_w]; rw [c10b0]) | skip)
            obtain ⟨ji12, hji12⟩ : ∃ j_ : Int, (mx a0_1 a0_2) = j_ := ⟨_, rfl⟩
            replace H : (if (ji12) ≥ 16 then (ledger_Check.j1 kj3 true a0_0 a0_1 a0_2 a0_3) else (if a0_3 < x5_3 then (ledger_Check.j1 kj3 true a0_0 a0_1 a0_2 a0_3) else (ledger_Check.j1 kj3 (decide (a0_3 > 1073741824)) a0_0 a0_1 a0_2 a0_3))) = some r := by first | (rw [hji12] at H; exact H) | (simp only [hji12] at H ⊢; exact H)
            have hji12_ : (if a0_1 < a0_2 then a0_2 else a0_1) = ji12 := hji12
            by_cases c13 : (ji12) ≥ 16
            · rw [if_pos c13] at H
              have c13b0 : decide (16 ≤ (ji12)) = true := decide_eq_true c13
              clear c13
              have H' := Aside0.mk H
              clear H
              have hcz14_0 : wc.cell? ⟨gb107, 0, none⟩ = some (.int .i64 a0_0) := (blk_cell BK107.out 0).trans rfl
              have hcz14_1 : wc.cell? ⟨gb107, 1, none⟩ = some (.int .i64 a0_1) := (blk_cell BK107.out 1).trans rfl
              have hcz14_2 : wc.cell? ⟨gb107, 2, none⟩ = some (.int .i64 a0_2) := (blk_cell BK107.out 2).trans rfl
              have hcz14_3 : wc.cell? ⟨gb107, 3, none⟩ = some (.int .i64 a0_3) := (blk_cell BK107.out 3).trans rfl
              have hfz14_0 := blk_frozen BK107.out 0
              have hfz14_1 := blk_frozen BK107.out 1
              have hfz14_2 := blk_frozen BK107.out 2
              have hfz14_3 := blk_frozen BK107.out 3
              go_wp2
              go_meet
              case rel => exact ⟨_, (true), (by first | rfl | (simp; done) | (simp [*]; done)), H', ⟨by have := HJ3.out; first | omega | exact Nat.le_refl _⟩, ⟨by (with_reducible repeat (first | refine blk_drewN ?_ _ | refine blk_drew ?_ | refine blk_alloc ?_ _)); exact BK107.out⟩, ⟨by repeat (first | (with_reducible first | exact HB.out | apply below_alloc | apply pw_below_drewN | apply below_drew1 | refine below_set ?_ GE107.out) | exact HB.out)⟩⟩
            · rw [if_neg c13] at H
              have c13b0 : decide (16 ≤ (ji12)) = false := decide_eq_false c13
              clear c13
              by_cases c15 : a0_3 < x5_3
              · rw [if_pos c15] at H
                have c15b0 : decide (a0_3 < x5_3) = true := decide_eq_true c15
                clear c15
                have H' := Aside0.mk H
                clear H
                have hcz16_0 : wc.cell? ⟨gb107, 0, none⟩ = some (.int .i64 a0_0) := (blk_cell BK107.out 0).trans rfl
                have hcz16_1 : wc.cell? ⟨gb107, 1, none⟩ = some (.int .i64 a0_1) := (blk_cell BK107.out 1).trans rfl
                have hcz16_2 : wc.cell? ⟨gb107, 2, none⟩ = some (.int .i64 a0_2) := (blk_cell BK107.out 2).trans rfl
                have hcz16_3 : wc.cell? ⟨gb107, 3, none⟩ = some (.int .i64 a0_3) := (blk_cell BK107.out 3).trans rfl
                have hfz16_0 := blk_frozen BK107.out 0
                have hfz16_1 := blk_frozen BK107.out 1
                have hfz16_2 := blk_frozen BK107.out 2
                have hfz16_3 := blk_frozen BK107.out 3
                go_wp2
                go_meet
                case rel => exact ⟨_, (true), (by first | rfl | (simp; done) | (simp [*]; done)), H', ⟨by have := HJ3.out; first | omega | exact Nat.le_refl _⟩, ⟨by (with_reducible repeat (first | refine blk_drewN ?_ _ | refine blk_drew ?_ | refine blk_alloc ?_ _)); exact BK107.out⟩, ⟨by repeat (first | (with_reducible first | exact HB.out | apply below_alloc | apply pw_below_drewN | apply below_drew1 | refine below_set ?_ GE107.out) | exact HB.out)⟩⟩
              · rw [if_neg c15] at H
                have c15b0 : decide (a0_3 < x5_3) = false := decide_eq_false c15
                clear c15
                have H' := Aside0.mk H
                clear H
                have hcz17_0 : wc.cell? ⟨gb107, 0, none⟩ = some (.int .i64 a0_0) := (blk_cell BK107.out 0).trans rfl
                have hcz17_1 : wc.cell? ⟨gb107, 1, none⟩ = some (.int .i64 a0_1) := (blk_cell BK107.out 1).trans rfl
                have hcz17_2 : wc.cell? ⟨gb107, 2, none⟩ = some (.int .i64 a0_2) := (blk_cell BK107.out 2).trans rfl
                have hcz17_3 : wc.cell? ⟨gb107, 3, none⟩ = some (.int .i64 a0_3) := (blk_cell BK107.out 3).trans rfl
                have hfz17_0 := blk_frozen BK107.out 0
                have hfz17_1 := blk_frozen BK107.out 1
                have hfz17_2 := blk_frozen BK107.out 2
                have hfz17_3 := blk_frozen BK107.out 3
                go_wp2
                go_meet
                case rel => exact ⟨_, (decide (a0_3 > 1073741824)), (by first | rfl | (simp; done) | (simp [*]; done)), H', ⟨by have := HJ3.out; first | omega | exact Nat.le_refl _⟩, ⟨by (with_reducible repeat (first | refine blk_drewN ?_ _ | refine blk_drew ?_ | refine blk_alloc ?_ _)); exact BK107.out⟩, ⟨by repeat (first | (with_reducible first | exact HB.out | apply below_alloc | apply pw_below_drewN | apply below_drew1 | refine below_set ?_ GE107.out) | exact HB.out)⟩⟩
        case rest =>
          clear HC8
          try clear c1
          try clear c2
          try clear p2
          try clear c3
          try clear c3b0
          try clear c3b1
          try clear c7
          try clear c7b0
          try clear c7b1
          try clear c10
          try clear c10b0
          try clear c13
          try clear c13b0
          try clear c15
          try clear c15b0
          try clear hcz11_0
          try clear hcz11_1
          try clear hcz11_2
          try clear hcz11_3
          try clear hcz14_0
          try clear hcz14_1
          try clear hcz14_2
          try clear hcz14_3
          try clear hcz16_0
          try clear hcz16_1
          try clear hcz16_2
          try clear hcz16_3
          try clear hcz17_0
          try clear hcz17_1
          try clear hcz17_2
          try clear hcz17_3
          try clear hcz6_0
          try clear hcz6_1
          try clear hcz6_2
          try clear hcz6_3
          try clear hfz11_0
          try clear hfz11_1
          try clear hfz11_2
          try clear hfz11_3
          try clear hfz14_0
          try clear hfz14_1
          try clear hfz14_2
          try clear hfz14_3
          try clear hfz16_0
          try clear hfz16_1
          try clear hfz16_2
          try clear hfz16_3
          try clear hfz17_0
          try clear hfz17_1
          try clear hfz17_2
          try clear hfz17_3
          try clear hfz6_0
          try clear hfz6_1
          try clear hfz6_2
          try clear hfz6_3
          try clear p2
          obtain ⟨kq, x18_7, rfl, HA, HJ7, BK107, HB⟩ := hcut
          cases kq with
          | zero => exact absurd HA.out (by simp [ledger_Check.j1])
          | succ kj7 =>
            have H := HA.out
            clear HA
            simp only [ledger_Check.j1] at H
            by_cases c18 : x18_7 = true
            · subst c18
              have H1 : (some 4) = some r := by rw [if_pos rfl] at H; exact H
              clear H
              have H := H1
              clear H1
              obtain rfl := Option.some.inj H
              simp only [Option.some.injEq, Prod.mk.injEq] at H
              obtain ⟨rfl⟩ := H
              go_wp2
              go_ret
              exact ⟨by first | rfl | (simp [errW_none, errW_some] <;> rfl) | (simp [*, errW_none, errW_some] <;> rfl), by repeat (first | (with_reducible first | exact HB.out | apply below_alloc | apply pw_below_drewN | apply below_drew1 | refine below_set ?_ GE107.out) | exact HB.out)⟩
            · replace c18 := Bool.eq_false_iff.mpr c18
              subst c18
              have H1 : ((ledger_used.f a0_0 a0_1 a0_2 a0_3).bind fun bt110 => (if (!(a0_0 == bt110.1) || (!(a0_1 == bt110.2.1) || (!(a0_2 == bt110.2.2.1) || (!(a0_3 == bt110.2.2.2))))) = true then (some 9) else (some 0))) = some r := by rw [if_neg (show ¬ (false = true) by decide)] at H; exact H
              clear H
              have H := H1
              clear H1
              replace H := Option.bind_eq_some_iff.mp H
              obtain ⟨⟨t110, t111, t112, t113⟩, A190, H⟩ := H
              replace H : (if (!(a0_0 == t110) || (!(a0_1 == t111) || (!(a0_2 == t112) || (!(a0_3 == t113))))) = true then (some 9) else (some 0)) = some r := H
              have A19 := Aside0.mk A190
              clear A190
              by_cases c20 : (!(a0_0 == t110) || (!(a0_1 == t111) || (!(a0_2 == t112) || (!(a0_3 == t113))))) = true
              · rw [if_pos c20] at H
                have c20b0 : (!(a0_0 == t110) || (!(a0_1 == t111) || (!(a0_2 == t112) || (!(a0_3 == t113))))) = true := c20
                clear c20
                obtain rfl := Option.some.inj H
                simp only [Option.some.injEq, Prod.mk.injEq] at H
                obtain ⟨rfl⟩ := H
                try go_wp2
                have n0_ := Aside0.mk (blk_drew BK107.out)
                have n1_ := Aside0.mk (below_drew1 HB.out)
                clear BK107
                clear HB
                have BK107 := n0_
                have HB := n1_
                clear n0_ n1_
                refine start_ (n := 5) (S := fun w' => w'.cell? ⟨gb107, 0, none⟩ = some (.int .i64 a0_0) ∧ w'.cell? ⟨gb107, 1, none⟩ = some (.int .i64 a0_1) ∧ w'.cell? ⟨gb107, 2, none⟩ = some (.int .i64 a0_2) ∧ w'.cell? ⟨gb107, 3, none⟩ = some (.int .i64 a0_3)) (ds := []) #[false, false, false, false, false] (by kernel_rfl) rfl rfl ⟨(blk_cell BK107.out 0).trans rfl, (blk_cell BK107.out 1).trans rfl, (blk_cell BK107.out 2).trans rfl, (blk_cell BK107.out 3).trans rfl⟩ (fun hHeld => ?_)
                generalize wc.drew = w21 at BK107 HB hHeld ⊢
                refine take_ (i := 0) (N := some 45) (v := ?_) (a' := ?_) #[true, false, false, false, false] rfl rfl (by kernel_rfl) (fun _ _ _ h => h) (Or.inl ⟨by rfl, ?_⟩) hHeld ?_ ?_
                rotate_left
                · rintro w' ⟨s0, s1, s2, s3⟩
                  go_simp
                  with_reducible rfl
                rotate_left
                · simp only [Act.put, List.setIfInBounds_toArray, List.set_cons_zero, List.set_cons_succ, i64_w, i32_w]
                  rfl
                refine take_ (i := 1) (N := some 46) (v := ?_) (a' := ?_) #[true, true, false, false, false] rfl rfl (by kernel_rfl) (fun _ _ _ h => h) (Or.inl ⟨by rfl, ?_⟩) hHeld ?_ ?_
                rotate_left
                · rintro w' ⟨s0, s1, s2, s3⟩
                  go_simp
                  with_reducible rfl
                rotate_left
                · simp only [Act.put, List.setIfInBounds_toArray, List.set_cons_zero, List.set_cons_succ, i64_w, i32_w]
                  rfl
                refine one_ (i := 2) (N := some 47) #[true, true, true, false, false] rfl rfl (by kernel_rfl) (by decide) (fun K hK => ?_)
                refine goes_ Try.func28 (by kernel_rfl) rfl #[.agg #[.int .i64 a0_0, .int .i64 a0_1, .int .i64 a0_2, .int .i64 a0_3]] (by rfl) rfl rfl (by (try simp only [List.map_toArray, List.map_cons, List.map_nil]); first | done | rfl | (simp only [List.length_drop, List.length_take]; rfl)) ?_
                with_reducible refine (ledger_used.calls a0_0 a0_1 a0_2 a0_3 t110 t111 t112 t113 _ A19.out).mono ?_
                rintro e w22 ⟨rfl, hb⟩
                refine ⟨_, rfl, ?_⟩
                have n0_ := Aside0.mk (blk_below (g := gb107) (o := .cells #[.int .i64 a0_0, .int .i64 a0_1, .int .i64 a0_2, .int .i64 a0_3] 35 (0, 0)) (by (with_reducible repeat (first | refine blk_drewN ?_ _ | refine blk_drew ?_ | refine blk_alloc ?_ _)); exact BK107.out) hb)
                have n1_ := Aside0.mk (below_step (by repeat (first | (with_reducible first | exact HB.out | apply below_alloc | apply pw_below_drewN | apply below_drew1 | refine below_set ?_ GE107.out) | exact HB.out)) hb)
                clear BK107
                clear HB
                have BK107 := n0_
                have HB := n1_
                clear n0_ n1_
                (try clear hb)
                (try clear hb2)
                (try clear hk)
                (try clear hi)
                refine hK.out _ _ ⟨(blk_cell BK107.out 0).trans rfl, (blk_cell BK107.out 1).trans rfl, (blk_cell BK107.out 2).trans rfl, (blk_cell BK107.out 3).trans rfl⟩ (fun hHeld => ?_)
                clear hK K
                refine norm_ (a' := ?_) ?_ ?_
                rotate_left
                · show Act.put _ (some 47) _ = _
                  simp only [Act.put, List.setIfInBounds_toArray, List.set_cons_zero, List.set_cons_succ, i64_w, i32_w]
                  rfl
                refine pure_ (i := 3) (N := some 48) (v := ?_) (a' := ?_) #[true, true, true, true, false] rfl rfl (by kernel_rfl) (fun _ _ _ h => h) (Or.inl ⟨by rfl, ?_⟩) ?_ ?_
                rotate_left
                · intro w'
                  go_simp
                  with_reducible rfl
                rotate_left
                · simp only [Act.put, List.setIfInBounds_toArray, List.set_cons_zero, List.set_cons_succ, i64_w, i32_w]
                  rfl
                refine pure_ (i := 4) (N := some 44) (v := ?_) (a' := ?_) #[true, true, true, true, true] rfl rfl (by kernel_rfl) (fun _ _ _ h => h) (Or.inl ⟨by rfl, ?_⟩) ?_ ?_
                rotate_left
                · intro w'
                  go_simp
                  with_reducible rfl
                rotate_left
                · simp only [Act.put, List.setIfInBounds_toArray, List.set_cons_zero, List.set_cons_succ, i64_w, i32_w]
                  rfl
                refine done_ (by kernel_rfl) ?_
                try go_wp2
                go_ret
                exact ⟨by first | rfl | (simp [errW_none, errW_some] <;> rfl) | (simp [*, errW_none, errW_some] <;> rfl), by repeat (first | (with_reducible first | exact HB.out | apply below_alloc | apply pw_below_drewN | apply below_drew1 | refine below_set ?_ GE107.out) | exact HB.out)⟩
              · rw [if_neg c20] at H
                have c20b0 : (!(a0_0 == t110) || (!(a0_1 == t111) || (!(a0_2 == t112) || (!(a0_3 == t113))))) = false := by simpa using c20
                clear c20
                obtain rfl := Option.some.inj H
                simp only [Option.some.injEq, Prod.mk.injEq] at H
                obtain ⟨rfl⟩ := H
                try go_wp2
                have n0_ := Aside0.mk (blk_drew BK107.out)
                have n1_ := Aside0.mk (below_drew1 HB.out)
                clear BK107
                clear HB
                have BK107 := n0_
                have HB := n1_
                clear n0_ n1_
                refine start_ (n := 5) (S := fun w' => w'.cell? ⟨gb107, 0, none⟩ = some (.int .i64 a0_0) ∧ w'.cell? ⟨gb107, 1, none⟩ = some (.int .i64 a0_1) ∧ w'.cell? ⟨gb107, 2, none⟩ = some (.int .i64 a0_2) ∧ w'.cell? ⟨gb107, 3, none⟩ = some (.int .i64 a0_3)) (ds := []) #[false, false, false, false, false] (by kernel_rfl) rfl rfl ⟨(blk_cell BK107.out 0).trans rfl, (blk_cell BK107.out 1).trans rfl, (blk_cell BK107.out 2).trans rfl, (blk_cell BK107.out 3).trans rfl⟩ (fun hHeld => ?_)
                generalize wc.drew = w23 at BK107 HB hHeld ⊢
                refine take_ (i := 0) (N := some 45) (v := ?_) (a' := ?_) #[true, false, false, false, false] rfl rfl (by kernel_rfl) (fun _ _ _ h => h) (Or.inl ⟨by rfl, ?_⟩) hHeld ?_ ?_
                rotate_left
                · rintro w' ⟨s0, s1, s2, s3⟩
                  go_simp
                  with_reducible rfl
                rotate_left
                · simp only [Act.put, List.setIfInBounds_toArray, List.set_cons_zero, List.set_cons_succ, i64_w, i32_w]
                  rfl
                refine take_ (i := 1) (N := some 46) (v := ?_) (a' := ?_) #[true, true, false, false, false] rfl rfl (by kernel_rfl) (fun _ _ _ h => h) (Or.inl ⟨by rfl, ?_⟩) hHeld ?_ ?_
                rotate_left
                · rintro w' ⟨s0, s1, s2, s3⟩
                  go_simp
                  with_reducible rfl
                rotate_left
                · simp only [Act.put, List.setIfInBounds_toArray, List.set_cons_zero, List.set_cons_succ, i64_w, i32_w]
                  rfl
                refine one_ (i := 2) (N := some 47) #[true, true, true, false, false] rfl rfl (by kernel_rfl) (by decide) (fun K hK => ?_)
                refine goes_ Try.func28 (by kernel_rfl) rfl #[.agg #[.int .i64 a0_0, .int .i64 a0_1, .int .i64 a0_2, .int .i64 a0_3]] (by rfl) rfl rfl (by (try simp only [List.map_toArray, List.map_cons, List.map_nil]); first | done | rfl | (simp only [List.length_drop, List.length_take]; rfl)) ?_
                with_reducible refine (ledger_used.calls a0_0 a0_1 a0_2 a0_3 t110 t111 t112 t113 _ A19.out).mono ?_
                rintro e w24 ⟨rfl, hb⟩
                refine ⟨_, rfl, ?_⟩
                have n0_ := Aside0.mk (blk_below (g := gb107) (o := .cells #[.int .i64 a0_0, .int .i64 a0_1, .int .i64 a0_2, .int .i64 a0_3] 35 (0, 0)) (by (with_reducible repeat (first | refine blk_drewN ?_ _ | refine blk_drew ?_ | refine blk_alloc ?_ _)); exact BK107.out) hb)
                have n1_ := Aside0.mk (below_step (by repeat (first | (with_reducible first | exact HB.out | apply below_alloc | apply pw_below_drewN | apply below_drew1 | refine below_set ?_ GE107.out) | exact HB.out)) hb)
                clear BK107
                clear HB
                have BK107 := n0_
                have HB := n1_
                clear n0_ n1_
                (try clear hb)
                (try clear hb2)
                (try clear hk)
                (try clear hi)
                refine hK.out _ _ ⟨(blk_cell BK107.out 0).trans rfl, (blk_cell BK107.out 1).trans rfl, (blk_cell BK107.out 2).trans rfl, (blk_cell BK107.out 3).trans rfl⟩ (fun hHeld => ?_)
                clear hK K
                refine norm_ (a' := ?_) ?_ ?_
                rotate_left
                · show Act.put _ (some 47) _ = _
                  simp only [Act.put, List.setIfInBounds_toArray, List.set_cons_zero, List.set_cons_succ, i64_w, i32_w]
                  rfl
                refine pure_ (i := 3) (N := some 48) (v := ?_) (a' := ?_) #[true, true, true, true, false] rfl rfl (by kernel_rfl) (fun _ _ _ h => h) (Or.inl ⟨by rfl, ?_⟩) ?_ ?_
                rotate_left
                · intro w'
                  go_simp
                  with_reducible rfl
                rotate_left
                · simp only [Act.put, List.setIfInBounds_toArray, List.set_cons_zero, List.set_cons_succ, i64_w, i32_w]
                  rfl
                refine pure_ (i := 4) (N := some 44) (v := ?_) (a' := ?_) #[true, true, true, true, true] rfl rfl (by kernel_rfl) (fun _ _ _ h => h) (Or.inl ⟨by rfl, ?_⟩) ?_ ?_
                rotate_left
                · intro w'
                  go_simp
                  with_reducible rfl
                rotate_left
                · simp only [Act.put, List.setIfInBounds_toArray, List.set_cons_zero, List.set_cons_succ, i64_w, i32_w]
                  rfl
                refine done_ (by kernel_rfl) ?_
                try go_wp2
                go_ret
                exact ⟨by first | rfl | (simp [errW_none, errW_some] <;> rfl) | (simp [*, errW_none, errW_some] <;> rfl), by repeat (first | (with_reducible first | exact HB.out | apply below_alloc | apply pw_below_drewN | apply below_drew1 | refine below_set ?_ GE107.out) | exact HB.out)⟩
  · rw [if_neg c3] at H
    have c3b0 : (t109 == 0) = false := beq_eq_false_iff_ne.mpr c3
    have c3b1 : (t109 != 0) = true := bne_iff_ne.mpr c3
    obtain rfl := Option.some.inj H
    simp only [Option.some.injEq, Prod.mk.injEq] at H
    obtain ⟨rfl⟩ := H
    go_enter Try.func18, Try.ntmps18
    go_wp2_with (first | ((with_reducible refine gate_dst (N := 1) rfl ?_); (try (refine gate_guard (by rfl) ?_; dsimp only)); refine box_event ?hg (N := 1) ?hd (cs := #[.int .i64 a0_0, .int .i64 a0_1, .int .i64 a0_2, .int .i64 a0_3]) (t := 35) ?hr ?_; (case hd => rfl); (case hg => rfl); (case hr => first | (go_simp; done) | (go_simp; rfl)); intro gb107 hg w25 hbox hb; have n0_ := Aside0.mk (below_step (by repeat (first | (with_reducible first | exact HB.out | apply below_alloc | apply pw_below_drewN | apply below_drew1) | exact HB.out)) hb); have n1_ := Aside0.mk (hbox); have n2_ := Aside0.mk ((by rw [hg]; exact (below_size (by repeat (first | (with_reducible first | exact HB.out | apply below_alloc | apply pw_below_drewN | apply below_drew1) | exact HB.out))) : w.heap.size ≤ gb107)); have n3_ := Aside0.mk ((by rw [hg]; exact (below_size (by repeat (first | (with_reducible first | exact HB.out | apply below_alloc | apply pw_below_drewN | apply below_drew1) | exact HB.out))) : w.heap.size ≤ gb107)); clear HB; have HB := n0_; have BK107 := n1_; have GW107 := n2_; have GE107 := n3_; clear n0_ n1_ n2_ n3_; clear hb hbox hg; have hcz26_0 : w25.cell? ⟨gb107, 0, none⟩ = some (.int .i64 a0_0) := (blk_cell BK107.out 0).trans rfl; have hcz26_1 : w25.cell? ⟨gb107, 1, none⟩ = some (.int .i64 a0_1) := (blk_cell BK107.out 1).trans rfl; have hcz26_2 : w25.cell? ⟨gb107, 2, none⟩ = some (.int .i64 a0_2) := (blk_cell BK107.out 2).trans rfl; have hcz26_3 : w25.cell? ⟨gb107, 3, none⟩ = some (.int .i64 a0_3) := (blk_cell BK107.out 3).trans rfl; have hfz26_0 := blk_frozen BK107.out 0; have hfz26_1 := blk_frozen BK107.out 1; have hfz26_2 := blk_frozen BK107.out 2; have hfz26_3 := blk_frozen BK107.out 3) | ((with_reducible refine gate_callee (f := 27) rfl ?_); refine goesL_ (some 9) rfl rfl Try.func27 (by kernel_rfl) rfl #[.int .i64 a0_0] rfl (by (try simp only [List.map_toArray, List.map_cons, List.map_nil]); first | done | rfl | (simp only [List.length_drop, List.length_take]; rfl)) ?_; (with_reducible refine (ledger_Once.calls a0_0 t108 t109 _ A2.out).mono ?_); rintro e w' ⟨rfl, ⟨nd, rfl⟩⟩; refine ⟨_, rfl, ?_⟩))
    go_ret
    exact ⟨by first | rfl | (simp [errW_none, errW_some] <;> rfl) | (simp [*, errW_none, errW_some] <;> rfl), by repeat (first | (with_reducible first | exact HB.out | apply below_alloc | apply pw_below_drewN | apply below_drew1 | refine below_set ?_ GE107.out) | exact HB.out)⟩
end Go.Proofs.Ytbegdgdghiigpaa.G
end

section
namespace Go.Proofs.Ytbegdgdghiigpaa.G
open WB Go.RowKit Go.Proofs.YtbegdgdghiigpaaW.PrintWords Go.Proofs.YtbegdgdghiigpaaW.PrintLast Go.Proofs.YtbegdgdghiigpaaW.PrintMore
attribute [local go_sem] max2_int min2_int max_two min_two max_three min_three max_four min_four   -- for this text's walks alone
set_option linter.unusedVariables false
set_option linter.unusedSimpArgs false
/-- A ledger on its way. -/
structure Book (W : World) (base g gb c : Nat) (vl : Value) (bs : List Int) (L : List S44) : Prop where
  b0 : W.heap[g]? = some (.cells #[.slice (some ⟨gb, 0, none⟩) bs.length c, vl] 57 (0, 0))
  rb : Kd.R (Kd.int .i64) 3 W base (fun _ => True) (.slice (some ⟨gb, 0, none⟩) bs.length c) bs
  rl : Kd.R k44 44 W base (fun _ => True) vl L
theorem Book.below {W W1 : World} {base g gb c : Nat} {vl : Value} {bs : List Int} {L : List S44} (h : Book W base g gb c vl bs L) (hb : Below W.heap.size W W1) : Book W1 base g gb c vl bs L := ⟨blk_below h.b0 hb, Kd.R_below h.rb hb, Kd.R_below h.rl hb⟩
theorem Book.cell {W : World} {base g gb c : Nat} {vl : Value} {bs : List Int} {L : List S44} (h : Book W base g gb c vl bs L) (k : Nat) (hk : k < bs.length) : W.cell? ⟨gb, k, none⟩ = some (.int .i64 (bs.getD k 0)) ∧ W.frozen? ⟨gb, k, none⟩ = false := by
  obtain ⟨cs, h1, h2, h3, h4⟩ := Kd.R_elem h.rb 0 (k : Int) (by omega) (by omega)
  have h5 : cs = [.int .i64 (bs.getD k 0)] := h2
  refine ⟨?_, by simpa [Kd.int, Kd.scalar] using h4 0⟩
  have := h3 0 _ (by rw [h5]; rfl)
  simpa [Kd.int, Kd.scalar] using this
set_option maxHeartbeats 2000000 in
set_option maxRecDepth 100000 in
theorem book_turn (base g gb c : Nat) (vl : Value) (bs : List Int) (L : List S44) (k : Nat) (d : Int) (w : World) (hB : Book w base g gb c vl bs L) (hk : k < bs.length) (hx : 0 ≤ bs.getD k 0 ∧ bs.getD k 0 ≤ 1073741824) (hd : -1073741824 ≤ d ∧ d ≤ 1073741824) :
    Calls Try.prog 33 #[.pointer (some ⟨g, 0, none⟩), .int .i64 k, .int .i64 d] w fun e w' => e = .returned (.bool (turnL bs k d).2) ∧ Book w' base g gb c vl (turnL bs k d).1 L ∧ w.grownBy w' (some gb) := by
  have HB := Aside0.mk hB
  have b0 : w.cell? ⟨g, 0, none⟩ = some (.slice (some ⟨gb, 0, none⟩) bs.length c) := (blk_cell hB.b0 0).trans rfl
  obtain ⟨q0, f0⟩ := hB.cell k hk
  obtain ⟨x, hxx⟩ : ∃ x, x = bs.getD k 0 := ⟨_, rfl⟩
  rw [← hxx] at q0 hx
  have HX := Aside0.mk hxx
  have hlen : bs.length ≤ 9223372036854775807 := (Kd.R_reads' hB.rb).2.2.2.1
  obtain ⟨hx1, hx2⟩ := hx
  obtain ⟨hd1, hd2⟩ := hd
  clear hB hxx
  by_cases h1 : x + d < 0
  · have HE : Aside0 (turnL bs k d = (bs, false)) := ⟨by unfold turnL; rw [if_pos (by rw [← HX.out]; exact .inl h1)]⟩
    rw [HE.out]
    have t1 : decide (x + d < 0) = true := decide_eq_true h1
    go_enter Try.func33, Try.ntmps33
    go_wp2
    go_ret
    exact ⟨rfl, HB.out, World.grownBy.refl _ _⟩
  · by_cases h2 : 1073741824 < x + d
    · have HE : Aside0 (turnL bs k d = (bs, false)) := ⟨by unfold turnL; rw [if_pos (by rw [← HX.out]; exact .inr h2)]⟩
      rw [HE.out]
      have t1 : decide (x + d < 0) = false := decide_eq_false h1
      have t2 : decide (1073741824 < x + d) = true := decide_eq_true h2
      go_enter Try.func33, Try.ntmps33
      go_wp2
      go_ret
      exact ⟨rfl, HB.out, World.grownBy.refl _ _⟩
    · have HE : Aside0 (turnL bs k d = (bs.set k (x + d), true)) := ⟨by unfold turnL; rw [if_neg (by rw [← HX.out]; omega), ← HX.out]⟩
      rw [HE.out]
      have t1 : decide (x + d < 0) = false := decide_eq_false h1
      have t2 : decide (1073741824 < x + d) = false := decide_eq_false h2
      go_enter Try.func33, Try.ntmps33
      go_wp2
      go_ret
      have hp := Kd.R_put (g := gb) HB.out.rb (k : Int) (x + d)
      simp only [Int.toNat_natCast] at hp
      obtain ⟨hr, hg⟩ := hp
      refine ⟨rfl, ⟨?_, ?_, ?_⟩, hg⟩
      · rw [List.length_set]
        exact blk_far HB.out.b0 (p := ⟨gb, k, none⟩) (fun he => Kd.R_ne HB.out.rb HB.out.b0 (by decide) (by simp [Value.ownBlock, he])) _
      · rw [List.length_set]
        exact hr
      · exact Kd.R_over HB.out.rl HB.out.rb (by decide) hg
set_option maxHeartbeats 4000000 in
set_option maxRecDepth 100000 in
theorem book_change (base g gb c : Nat) (vl : Value) (bs : List Int) (L : List S44) (o : S35) (w : World) (hB : Book w base g gb c vl bs L) (ho : OpOk o) (hb : BalOk bs) :
    Calls Try.prog 31 #[.pointer (some ⟨g, 0, none⟩), .agg #[.int .i64 o.f0, .int .i64 o.f1, .int .i64 o.f2, .int .i64 o.f3]] w fun e w' => e = .returned (.int .i64 (changeL bs o).2) ∧ Book w' base g gb c vl (changeL bs o).1 L ∧ w.grownBy w' (some gb) := by
  obtain ⟨wh, ke, ot, am⟩ := o
  obtain ⟨hw1, hw2, hk1, hk2, ho1, ho2, ha1, ha2⟩ := ho
  dsimp only at hw1 hw2 hk1 hk2 ho1 ho2 ha1 ha2
  obtain ⟨k1, rfl⟩ := Int.eq_ofNat_of_zero_le hk1
  obtain ⟨k2, rfl⟩ := Int.eq_ofNat_of_zero_le ho1
  have HBO := Aside0.mk hb
  have hl : k1 < bs.length := by rw [hb.len]; omega
  have HGB : Aside0 (gb < w.heap.size) := ⟨Kd.R_lt hB.rb gb rfl⟩
  have HB := Aside0.mk (hB.below (below_alloc (Below.refl _ _) (.cells #[.int .i64 wh, .int .i64 k1, .int .i64 k2, .int .i64 am] 35)))
  have HG0 := Aside0.mk (World.grownBy_alloc w (.cells #[.int .i64 wh, .int .i64 k1, .int .i64 k2, .int .i64 am] 35) (some gb))
  have BK0 := Aside0.mk (heap_new1 w (.cells #[.int .i64 wh, .int .i64 k1, .int .i64 k2, .int .i64 am] 35))
  have hneg : IntKind.i64.wrap (-am) = -am := by rw [IntKind.wrap_i64]; omega
  clear hB hb hk1 ho1
  have hc : wh = 1 ∨ wh = 2 ∨ 3 ≤ wh := by omega
  rcases hc with rfl | rfl | hc
  · cases hT : (turnL bs k1 am).2 with
    | true =>
      have HCE : Aside0 (changeL bs ⟨1, k1, k2, am⟩ = ((turnL bs k1 am).1, 0)) := ⟨by unfold changeL; dsimp only; rw [if_pos rfl, Int.toNat_natCast, if_pos hT]⟩
      have HTT := Aside0.mk hT
      clear hT
      go_enter Try.func31, Try.ntmps31
      go_wp2_with fail
      go_at_call 33
      with_reducible refine (book_turn base g gb c vl bs L k1 am _ HB.out (by have := HBO.out.len; omega) (HBO.out.get k1) ⟨by omega, by omega⟩).mono ?_
      rintro e w1 ⟨rfl, hB, hg⟩
      have HB1 := Aside0.mk hB
      have HG1 := Aside0.mk (World.grownBy.trans HG0.out hg)
      have BK1 := Aside0.mk ((hg.block w.heap.size (blk_lt BK0.out) (by have := HGB.out; simp; omega)).trans BK0.out)
      clear hB hg
      have hlt1 : w.heap.size < w1.heap.size := blk_lt BK1.out
      have p10 : w1.cell? ⟨w.heap.size, 0, none⟩ = some (.int .i64 1) := (blk_cell BK1.out 0).trans rfl
      have p11 : w1.cell? ⟨w.heap.size, 1, none⟩ = some (.int .i64 k1) := (blk_cell BK1.out 1).trans rfl
      have p12 : w1.cell? ⟨w.heap.size, 2, none⟩ = some (.int .i64 k2) := (blk_cell BK1.out 2).trans rfl
      have p13 : w1.cell? ⟨w.heap.size, 3, none⟩ = some (.int .i64 am) := (blk_cell BK1.out 3).trans rfl
      rw [HTT.out]
      go_wp2
      go_ret
      exact ⟨by rw [HCE.out]; rfl, by rw [HCE.out]; exact HB1.out, HG1.out⟩
    | false =>
      have HCE : Aside0 (changeL bs ⟨1, k1, k2, am⟩ = (bs, 1) ∧ (turnL bs k1 am).1 = bs) := ⟨by unfold changeL; dsimp only; rw [if_pos rfl, Int.toNat_natCast, if_neg (by rw [hT]; simp)], turn_no hT⟩
      have HTT := Aside0.mk hT
      clear hT
      go_enter Try.func31, Try.ntmps31
      go_wp2_with fail
      go_at_call 33
      with_reducible refine (book_turn base g gb c vl bs L k1 am _ HB.out (by have := HBO.out.len; omega) (HBO.out.get k1) ⟨by omega, by omega⟩).mono ?_
      rintro e w1 ⟨rfl, hB, hg⟩
      have HB1 := Aside0.mk hB
      have HG1 := Aside0.mk (World.grownBy.trans HG0.out hg)
      have BK1 := Aside0.mk ((hg.block w.heap.size (blk_lt BK0.out) (by have := HGB.out; simp; omega)).trans BK0.out)
      clear hB hg
      have hlt1 : w.heap.size < w1.heap.size := blk_lt BK1.out
      have p10 : w1.cell? ⟨w.heap.size, 0, none⟩ = some (.int .i64 1) := (blk_cell BK1.out 0).trans rfl
      have p11 : w1.cell? ⟨w.heap.size, 1, none⟩ = some (.int .i64 k1) := (blk_cell BK1.out 1).trans rfl
      have p12 : w1.cell? ⟨w.heap.size, 2, none⟩ = some (.int .i64 k2) := (blk_cell BK1.out 2).trans rfl
      have p13 : w1.cell? ⟨w.heap.size, 3, none⟩ = some (.int .i64 am) := (blk_cell BK1.out 3).trans rfl
      rw [HTT.out]
      go_wp2
      go_ret
      exact ⟨by rw [HCE.out.1]; rfl, by rw [HCE.out.1]; have := HB1.out; rwa [HCE.out.2] at this, HG1.out⟩
  · cases hT : (turnL bs k1 (-am)).2 with
    | false =>
      have HCE : Aside0 (changeL bs ⟨2, k1, k2, am⟩ = (bs, 1) ∧ (turnL bs k1 (-am)).1 = bs) := ⟨by unfold changeL; dsimp only; rw [if_neg (by decide), if_pos rfl, Int.toNat_natCast, if_neg (by rw [hT]; simp)], turn_no hT⟩
      have HTT := Aside0.mk hT
      clear hT
      go_enter Try.func31, Try.ntmps31
      go_wp2_with fail
      go_at_call 33
      with_reducible refine (book_turn base g gb c vl bs L k1 (-am) _ HB.out (by have := HBO.out.len; omega) (HBO.out.get k1) ⟨by omega, by omega⟩).mono ?_
      rintro e w1 ⟨rfl, hB, hg⟩
      have HB1 := Aside0.mk hB
      have HG1 := Aside0.mk (World.grownBy.trans HG0.out hg)
      have BK1 := Aside0.mk ((hg.block w.heap.size (blk_lt BK0.out) (by have := HGB.out; simp; omega)).trans BK0.out)
      clear hB hg
      have hlt1 : w.heap.size < w1.heap.size := blk_lt BK1.out
      have p10 : w1.cell? ⟨w.heap.size, 0, none⟩ = some (.int .i64 2) := (blk_cell BK1.out 0).trans rfl
      have p11 : w1.cell? ⟨w.heap.size, 1, none⟩ = some (.int .i64 k1) := (blk_cell BK1.out 1).trans rfl
      have p12 : w1.cell? ⟨w.heap.size, 2, none⟩ = some (.int .i64 k2) := (blk_cell BK1.out 2).trans rfl
      have p13 : w1.cell? ⟨w.heap.size, 3, none⟩ = some (.int .i64 am) := (blk_cell BK1.out 3).trans rfl
      rw [HTT.out]
      go_wp2
      go_ret
      exact ⟨by rw [HCE.out.1]; rfl, by rw [HCE.out.1]; have := HB1.out; rwa [HCE.out.2] at this, HG1.out⟩
    | true =>
      obtain ⟨b1, hb1⟩ : ∃ b1, b1 = (turnL bs k1 (-am)).1 := ⟨_, rfl⟩
      have HB1O : Aside0 (BalOk b1) := ⟨by rw [hb1]; exact turn_ok HBO.out _ _⟩
      have HTT := Aside0.mk hT
      have HBE := Aside0.mk hb1
      cases hS : (turnL b1 k2 am).2 with
      | true =>
        have HCE : Aside0 (changeL bs ⟨2, k1, k2, am⟩ = ((turnL b1 k2 am).1, 0)) := ⟨by unfold changeL; dsimp only; rw [if_neg (by decide), if_pos rfl, Int.toNat_natCast, Int.toNat_natCast, if_pos hT, ← hb1, if_pos hS]⟩
        have HSS := Aside0.mk hS
        clear hT hS hb1
        go_enter Try.func31, Try.ntmps31
        go_wp2_with fail
        go_at_call 33
        with_reducible refine (book_turn base g gb c vl bs L k1 (-am) _ HB.out (by have := HBO.out.len; omega) (HBO.out.get k1) ⟨by omega, by omega⟩).mono ?_
        rintro e w1 ⟨rfl, hB, hg⟩
        have HB1 := Aside0.mk hB
        have HG1 := Aside0.mk (World.grownBy.trans HG0.out hg)
        have BK1 := Aside0.mk ((hg.block w.heap.size (blk_lt BK0.out) (by have := HGB.out; simp; omega)).trans BK0.out)
        clear hB hg
        have hlt1 : w.heap.size < w1.heap.size := blk_lt BK1.out
        have p10 : w1.cell? ⟨w.heap.size, 0, none⟩ = some (.int .i64 2) := (blk_cell BK1.out 0).trans rfl
        have p11 : w1.cell? ⟨w.heap.size, 1, none⟩ = some (.int .i64 k1) := (blk_cell BK1.out 1).trans rfl
        have p12 : w1.cell? ⟨w.heap.size, 2, none⟩ = some (.int .i64 k2) := (blk_cell BK1.out 2).trans rfl
        have p13 : w1.cell? ⟨w.heap.size, 3, none⟩ = some (.int .i64 am) := (blk_cell BK1.out 3).trans rfl
        rw [HTT.out]
        rw [← HBE.out] at HB1
        go_wp2_with fail
        go_at_call 33
        with_reducible refine (book_turn base g gb c vl b1 L k2 am _ HB1.out (by have := HB1O.out.len; omega) (HB1O.out.get k2) ⟨by omega, by omega⟩).mono ?_
        rintro e w2 ⟨rfl, hB, hg⟩
        have HB2 := Aside0.mk hB
        have HG2 := Aside0.mk (World.grownBy.trans HG1.out hg)
        have BK2 := Aside0.mk ((hg.block w.heap.size (blk_lt BK1.out) (by have := HGB.out; simp; omega)).trans BK1.out)
        clear hB hg
        have hlt2 : w.heap.size < w2.heap.size := blk_lt BK2.out
        have p20 : w2.cell? ⟨w.heap.size, 0, none⟩ = some (.int .i64 2) := (blk_cell BK2.out 0).trans rfl
        have p21 : w2.cell? ⟨w.heap.size, 1, none⟩ = some (.int .i64 k1) := (blk_cell BK2.out 1).trans rfl
        have p22 : w2.cell? ⟨w.heap.size, 2, none⟩ = some (.int .i64 k2) := (blk_cell BK2.out 2).trans rfl
        have p23 : w2.cell? ⟨w.heap.size, 3, none⟩ = some (.int .i64 am) := (blk_cell BK2.out 3).trans rfl
        rw [HSS.out]
        go_wp2
        go_ret
        exact ⟨by rw [HCE.out]; rfl, by rw [HCE.out]; exact HB2.out, HG2.out⟩
      | false =>
        have HCE : Aside0 (changeL bs ⟨2, k1, k2, am⟩ = ((turnL b1 k1 am).1, 1) ∧ (turnL b1 k2 am).1 = b1) := ⟨by unfold changeL; dsimp only; rw [if_neg (by decide), if_pos rfl, Int.toNat_natCast, Int.toNat_natCast, if_pos hT, ← hb1, if_neg (by rw [hS]; simp)], turn_no hS⟩
        have HSS := Aside0.mk hS
        clear hT hS hb1
        go_enter Try.func31, Try.ntmps31
        go_wp2_with fail
        go_at_call 33
        with_reducible refine (book_turn base g gb c vl bs L k1 (-am) _ HB.out (by have := HBO.out.len; omega) (HBO.out.get k1) ⟨by omega, by omega⟩).mono ?_
        rintro e w1 ⟨rfl, hB, hg⟩
        have HB1 := Aside0.mk hB
        have HG1 := Aside0.mk (World.grownBy.trans HG0.out hg)
        have BK1 := Aside0.mk ((hg.block w.heap.size (blk_lt BK0.out) (by have := HGB.out; simp; omega)).trans BK0.out)
        clear hB hg
        have hlt1 : w.heap.size < w1.heap.size := blk_lt BK1.out
        have p10 : w1.cell? ⟨w.heap.size, 0, none⟩ = some (.int .i64 2) := (blk_cell BK1.out 0).trans rfl
        have p11 : w1.cell? ⟨w.heap.size, 1, none⟩ = some (.int .i64 k1) := (blk_cell BK1.out 1).trans rfl
        have p12 : w1.cell? ⟨w.heap.size, 2, none⟩ = some (.int .i64 k2) := (blk_cell BK1.out 2).trans rfl
        have p13 : w1.cell? ⟨w.heap.size, 3, none⟩ = some (.int .i64 am) := (blk_cell BK1.out 3).trans rfl
        rw [HTT.out]
        rw [← HBE.out] at HB1
        go_wp2_with fail
        go_at_call 33
        with_reducible refine (book_turn base g gb c vl b1 L k2 am _ HB1.out (by have := HB1O.out.len; omega) (HB1O.out.get k2) ⟨by omega, by omega⟩).mono ?_
        rintro e w2 ⟨rfl, hB, hg⟩
        have HB2 := Aside0.mk hB
        have HG2 := Aside0.mk (World.grownBy.trans HG1.out hg)
        have BK2 := Aside0.mk ((hg.block w.heap.size (blk_lt BK1.out) (by have := HGB.out; simp; omega)).trans BK1.out)
        clear hB hg
        have hlt2 : w.heap.size < w2.heap.size := blk_lt BK2.out
        have p20 : w2.cell? ⟨w.heap.size, 0, none⟩ = some (.int .i64 2) := (blk_cell BK2.out 0).trans rfl
        have p21 : w2.cell? ⟨w.heap.size, 1, none⟩ = some (.int .i64 k1) := (blk_cell BK2.out 1).trans rfl
        have p22 : w2.cell? ⟨w.heap.size, 2, none⟩ = some (.int .i64 k2) := (blk_cell BK2.out 2).trans rfl
        have p23 : w2.cell? ⟨w.heap.size, 3, none⟩ = some (.int .i64 am) := (blk_cell BK2.out 3).trans rfl
        rw [HSS.out]
        rw [HCE.out.2] at HB2
        go_wp2_with fail
        go_at_call 33
        with_reducible refine (book_turn base g gb c vl b1 L k1 am _ HB2.out (by have := HB1O.out.len; omega) (HB1O.out.get k1) ⟨by omega, by omega⟩).mono ?_
        rintro e w3 ⟨rfl, hB, hg⟩
        have HB3 := Aside0.mk hB
        have HG3 := Aside0.mk (World.grownBy.trans HG2.out hg)
        have BK3 := Aside0.mk ((hg.block w.heap.size (blk_lt BK2.out) (by have := HGB.out; simp; omega)).trans BK2.out)
        clear hB hg
        have hlt3 : w.heap.size < w3.heap.size := blk_lt BK3.out
        have p30 : w3.cell? ⟨w.heap.size, 0, none⟩ = some (.int .i64 2) := (blk_cell BK3.out 0).trans rfl
        have p31 : w3.cell? ⟨w.heap.size, 1, none⟩ = some (.int .i64 k1) := (blk_cell BK3.out 1).trans rfl
        have p32 : w3.cell? ⟨w.heap.size, 2, none⟩ = some (.int .i64 k2) := (blk_cell BK3.out 2).trans rfl
        have p33 : w3.cell? ⟨w.heap.size, 3, none⟩ = some (.int .i64 am) := (blk_cell BK3.out 3).trans rfl
        go_wp2
        go_ret
        exact ⟨by rw [HCE.out.1]; rfl, by rw [HCE.out.1]; exact HB3.out, HG3.out⟩
  · have HCE : Aside0 (changeL bs ⟨wh, k1, k2, am⟩ = (bs, 0)) := ⟨by unfold changeL; dsimp only; rw [if_neg (by omega), if_neg (by omega)]⟩
    have t1 : (wh == 1) = false := by simp; omega
    have t2 : (wh == 2) = false := by simp; omega
    have t3 : decide (wh ≤ 2) = false := decide_eq_false (by omega)
    go_enter Try.func31, Try.ntmps31
    go_wp2
    go_ret
    exact ⟨by rw [HCE.out]; rfl, by rw [HCE.out]; exact HB.out, HG0.out⟩
end Go.Proofs.Ytbegdgdghiigpaa.G
end
