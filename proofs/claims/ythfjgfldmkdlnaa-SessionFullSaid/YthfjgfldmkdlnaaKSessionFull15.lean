/- SessionFull: texts of this claim, packed: what the kit's print has written for it and own texts, without what its proof does not reach. -/
import Derived.Test.YthfjgfldmkdlnaaKSessionFull1
import Derived.Test.YthfjgfldmkdlnaaKSessionFull10
import Derived.Test.YthfjgfldmkdlnaaKSessionFull13
import Derived.Test.YthfjgfldmkdlnaaKSessionFull14
import Derived.Laws.BitsAllLaws
import Derived.Laws.BitsLemmas
import Derived.WalkKit
set_option linter.unusedVariables false
set_option linter.unusedSimpArgs false
set_option linter.unusedSectionVars false
section
namespace Go.Proofs.Ythfjgfldmkdlnaa.G
open WB Go.RowKit Go.Proofs.YthfjgfldmkdlnaaW.PrintWords Go.Proofs.YthfjgfldmkdlnaaW.PrintLast Go.Proofs.YthfjgfldmkdlnaaW.PrintMore
attribute [local go_sem] max2_int min2_int max_two min_two max_three min_three max_four min_four   -- for this text's walks alone
set_option linter.unusedVariables false
set_option linter.unusedSimpArgs false
mutual
def waybilllaw23_SessionFull.j0 : Nat → Int → Int → Bool → Int → Int → Int → Option (Bool)
  | 0, _, _, _, _, _, _ => none
  | k + 1, x1, x2, x42, x167000, x167001, x167002 => if x42 = true then (some true) else (waybilllaw23_SessionFull.l0 k x1 x2 ([] : List (S38)) 1 0 x167000 x167001 x167002)
def waybilllaw23_SessionFull.l0 : Nat → Int → Int → List (S38) → Int → Int → Int → Int → Int → Option (Bool)
  | 0, _, _, _, _, _, _, _, _ => none
  | k + 1, x1, x2, x7, x8, x9, x167000, x167001, x167002 => if x9 < x167000 then ((session_Open.f x7 x167000 x167001 x167002 x8 x1 x2).bind fun bt169 => ((waybilllaw23_num.f bt169.2.2).bind fun t174 => (if t174 = 0 then (waybilllaw23_SessionFull.l0 k x1 x2 bt169.1 bt169.2.1 (wrap64 (x9 + 1)) x167000 x167001 x167002) else (some false)))) else ((session_Open.f x7 x167000 x167001 x167002 x8 x1 x2).bind fun bt175 => ((session_Expire.f x7 x167000 x167001 x167002 x8 (wrap64 (x1 + x167001))).bind fun bt180 => ((session_Open.f bt180.1 x167000 x167001 x167002 x8 (wrap64 (x1 + x167001)) x2).bind fun bt187 => ((waybilllaw23_num.f bt175.2.2).bind fun t192 => (if t192 = 72 then ((waybilllaw23_num.f bt180.2.2).bind fun t193 => ((waybilllaw23_num.f bt187.2.2).bind fun t194 => (if (wrap64 (t193 + t194)) = 0 then (if (bt180.2.1.length : Int) = x167000 then (some ((bt180.1.length : Int) == 0)) else (some false)) else (some false)))) else (some false))))))
end
def waybilllaw23_SessionFull.f (k : Nat) (a0_0 : Int) (a0_1 : Int) (a0_2 : Int) (a1 : Int) (a2 : Int) : Option (Bool) := (waybilllaw23_alive.f).bind fun t167 => (if t167 = true then ((waybillref23_Sets.f a0_0 a0_1 a0_2).bind fun t168 => (if t168 = true then (if a1 < 0 then (waybilllaw23_SessionFull.j0 k a1 a2 true a0_0 a0_1 a0_2) else (if a1 > 268435456 then (waybilllaw23_SessionFull.j0 k a1 a2 true a0_0 a0_1 a0_2) else (if a2 < 0 then (waybilllaw23_SessionFull.j0 k a1 a2 true a0_0 a0_1 a0_2) else (waybilllaw23_SessionFull.j0 k a1 a2 (decide (a2 > 2147483647)) a0_0 a0_1 a0_2)))) else (waybilllaw23_SessionFull.j0 k a1 a2 true a0_0 a0_1 a0_2))) else (some false))
theorem waybilllaw23_SessionFull.mono_l : ∀ k, (∀ y0 y1 y2 y3 y4 y5, LeO (waybilllaw23_SessionFull.j0 k y0 y1 y2 y3 y4 y5) (waybilllaw23_SessionFull.j0 (k + 1) y0 y1 y2 y3 y4 y5)) ∧ (∀ y0 y1 y2 y3 y4 y5 y6 y7, LeO (waybilllaw23_SessionFull.l0 k y0 y1 y2 y3 y4 y5 y6 y7) (waybilllaw23_SessionFull.l0 (k + 1) y0 y1 y2 y3 y4 y5 y6 y7))
  | 0 => ⟨fun _ _ _ _ _ _ r h => by simp [waybilllaw23_SessionFull.j0] at h, fun _ _ _ _ _ _ _ _ r h => by simp [waybilllaw23_SessionFull.l0] at h⟩
  | k + 1 => by
    obtain ⟨ih0, ih1⟩ := waybilllaw23_SessionFull.mono_l k
    refine ⟨?_, ?_⟩
    · intro y0 y1 y2 y3 y4 y5
      unfold waybilllaw23_SessionFull.j0
      repeat' first
      | (with_reducible exact ih0 _ _ _ _ _ _)
      | (with_reducible exact ih1 _ _ _ _ _ _ _ _)
      | (with_reducible exact LeO.refl _)
      | (with_reducible exact LeO.none _)
      | (with_reducible refine LeO.ite ?_ ?_)
      | (with_reducible refine LeO.bind ?_ (fun _ => ?_))
      | exact ih0 _ _ _ _ _ _
      | exact ih1 _ _ _ _ _ _ _ _
      | exact LeO.none _
      | refine LeO.ite ?_ ?_
      | refine LeO.bind ?_ (fun _ => ?_)
    · intro y0 y1 y2 y3 y4 y5 y6 y7
      unfold waybilllaw23_SessionFull.l0
      repeat' first
      | (with_reducible exact ih0 _ _ _ _ _ _)
      | (with_reducible exact ih1 _ _ _ _ _ _ _ _)
      | (with_reducible exact LeO.refl _)
      | (with_reducible exact LeO.none _)
      | (with_reducible refine LeO.ite ?_ ?_)
      | (with_reducible refine LeO.bind ?_ (fun _ => ?_))
      | exact ih0 _ _ _ _ _ _
      | exact ih1 _ _ _ _ _ _ _ _
      | exact LeO.none _
      | refine LeO.ite ?_ ?_
      | refine LeO.bind ?_ (fun _ => ?_)
theorem waybilllaw23_SessionFull.mono : ∀ a0 a1 a2 a3 a4 k, LeO (waybilllaw23_SessionFull.f k a0 a1 a2 a3 a4) (waybilllaw23_SessionFull.f (k + 1) a0 a1 a2 a3 a4) := by
  intro a0 a1 a2 a3 a4 k
  obtain ⟨ih0, ih1⟩ := waybilllaw23_SessionFull.mono_l k
  unfold waybilllaw23_SessionFull.f
  repeat' first
      | (with_reducible exact ih0 _ _ _ _ _ _)
      | (with_reducible exact ih1 _ _ _ _ _ _ _ _)
      | (with_reducible exact LeO.refl _)
      | (with_reducible exact LeO.none _)
      | (with_reducible refine LeO.ite ?_ ?_)
      | (with_reducible refine LeO.bind ?_ (fun _ => ?_))
      | exact ih0 _ _ _ _ _ _
      | exact ih1 _ _ _ _ _ _ _ _
      | exact LeO.none _
      | refine LeO.ite ?_ ?_
      | refine LeO.bind ?_ (fun _ => ?_)
set_option maxHeartbeats 8000000 in
set_option maxRecDepth 100000 in
theorem waybilllaw23_SessionFull.calls (k : Nat) (a0_0 : Int) (a0_1 : Int) (a0_2 : Int) (a1 : Int) (a2 : Int) (r : Bool) (w : World) (h : waybilllaw23_SessionFull.f k a0_0 a0_1 a0_2 a1 a2 = some r)  (hrt : r = true) :
    Calls Try.prog 5 #[.agg #[.int .i64 a0_0, .int .i64 a0_1, .int .i64 a0_2], .int .i64 a1, .int .i64 a2] w fun e w' => e = .returned (.bool r) ∧ Below w.heap.size w w' := by
  have hu24 := Try.underlying24
  have HB := Aside0.mk (Below.refl w.heap.size w)
  have H : ((waybilllaw23_alive.f).bind fun t167 => (if t167 = true then ((waybillref23_Sets.f a0_0 a0_1 a0_2).bind fun t168 => (if t168 = true then (if a1 < 0 then (waybilllaw23_SessionFull.j0 k a1 a2 true a0_0 a0_1 a0_2) else (if a1 > 268435456 then (waybilllaw23_SessionFull.j0 k a1 a2 true a0_0 a0_1 a0_2) else (if a2 < 0 then (waybilllaw23_SessionFull.j0 k a1 a2 true a0_0 a0_1 a0_2) else (waybilllaw23_SessionFull.j0 k a1 a2 (decide (a2 > 2147483647)) a0_0 a0_1 a0_2)))) else (waybilllaw23_SessionFull.j0 k a1 a2 true a0_0 a0_1 a0_2))) else (some false))) = some r := h
  clear h
  replace H := Option.bind_eq_some_iff.mp H
  obtain ⟨t167, A40, H⟩ := H
  replace H : (if t167 = true then ((waybillref23_Sets.f a0_0 a0_1 a0_2).bind fun t168 => (if t168 = true then (if a1 < 0 then (waybilllaw23_SessionFull.j0 k a1 a2 true a0_0 a0_1 a0_2) else (if a1 > 268435456 then (waybilllaw23_SessionFull.j0 k a1 a2 true a0_0 a0_1 a0_2) else (if a2 < 0 then (waybilllaw23_SessionFull.j0 k a1 a2 true a0_0 a0_1 a0_2) else (waybilllaw23_SessionFull.j0 k a1 a2 (decide (a2 > 2147483647)) a0_0 a0_1 a0_2)))) else (waybilllaw23_SessionFull.j0 k a1 a2 true a0_0 a0_1 a0_2))) else (some false)) = some r := H
  have A4 := Aside0.mk A40
  clear A40
  by_cases c5 : t167 = true
  · subst c5
    have H1 : ((waybillref23_Sets.f a0_0 a0_1 a0_2).bind fun t168 => (if t168 = true then (if a1 < 0 then (waybilllaw23_SessionFull.j0 k a1 a2 true a0_0 a0_1 a0_2) else (if a1 > 268435456 then (waybilllaw23_SessionFull.j0 k a1 a2 true a0_0 a0_1 a0_2) else (if a2 < 0 then (waybilllaw23_SessionFull.j0 k a1 a2 true a0_0 a0_1 a0_2) else (waybilllaw23_SessionFull.j0 k a1 a2 (decide (a2 > 2147483647)) a0_0 a0_1 a0_2)))) else (waybilllaw23_SessionFull.j0 k a1 a2 true a0_0 a0_1 a0_2))) = some r := by rw [if_pos rfl] at H; exact H
    clear H
    have H := H1
    clear H1
    have HC6 := Aside0.mk H
    clear H
    go_enter Try.func5, Try.ntmps5
    go_upto_region 3 with (first | ((with_reducible refine gate_dst (N := 3) rfl ?_); (try (refine gate_guard (by rfl) ?_; dsimp only)); refine box_event ?hg (N := 3) ?hd (cs := #[.int .i64 a0_0, .int .i64 a0_1, .int .i64 a0_2]) (t := 24) ?hr ?_; (case hd => rfl); (case hg => rfl); (case hr => first | (go_simp; done) | (go_simp; rfl)); intro gb166 hg w7 hbox hb; have n0_ := Aside0.mk (below_step (by repeat (first | (with_reducible first | exact HB.out | apply below_alloc | apply pw_below_drewN | apply below_drew1) | exact HB.out)) hb); have n1_ := Aside0.mk (hbox); have n2_ := Aside0.mk ((by rw [hg]; exact (below_size (by repeat (first | (with_reducible first | exact HB.out | apply below_alloc | apply pw_below_drewN | apply below_drew1) | exact HB.out))) : w.heap.size ≤ gb166)); have n3_ := Aside0.mk ((by rw [hg]; exact (below_size (by repeat (first | (with_reducible first | exact HB.out | apply below_alloc | apply pw_below_drewN | apply below_drew1) | exact HB.out))) : w.heap.size ≤ gb166)); clear HB; have HB := n0_; have BK166 := n1_; have GW166 := n2_; have GE166 := n3_; clear n0_ n1_ n2_ n3_; clear hb hbox hg) | ((with_reducible refine gate_callee (f := 9) rfl ?_); refine goesL_ (some 22) rfl rfl Try.func9 (by kernel_rfl) rfl #[] rfl (by (try simp only [List.map_toArray, List.map_cons, List.map_nil]); first | done | rfl | (simp only [List.length_drop, List.length_take]; rfl)) ?_; (with_reducible refine (waybilllaw23_alive.calls  true _ A4.out).mono ?_); rintro e w8 ⟨rfl, hb⟩; refine ⟨_, rfl, ?_⟩; have n0_ := Aside0.mk (blk_below (g := gb166) (o := .cells #[.int .i64 a0_0, .int .i64 a0_1, .int .i64 a0_2] 24 (0, 0)) (by (with_reducible repeat (first | refine blk_drewN ?_ _ | refine blk_drew ?_ | refine blk_alloc ?_ _)); exact BK166.out) hb); have n1_ := Aside0.mk (below_step (by repeat (first | (with_reducible first | exact HB.out | apply below_alloc | apply pw_below_drewN | apply below_drew1 | refine below_set ?_ GE166.out) | exact HB.out)) hb); clear BK166; clear HB; have BK166 := n0_; have HB := n1_; clear n0_ n1_; (try clear hb); (try clear hb2); (try clear hk); (try clear hi)))
    (try simp only [Act.put, List.setIfInBounds_toArray, List.set_cons_zero, List.set_cons_succ])
    go_cut [42] (fun v42 wc => ∃ (kq : Nat) (x42_5 : Bool), v42 = .bool x42_5 ∧ Aside0 (waybilllaw23_SessionFull.j0 kq a1 a2 x42_5 a0_0 a0_1 a0_2 = some r) ∧ Aside0 (kq ≤ k) ∧ Aside0 (wc.heap[gb166]? = some (.cells #[.int .i64 a0_0, .int .i64 a0_1, .int .i64 a0_2] 24 (0, 0))) ∧ Aside0 (Below w.heap.size w wc))
    case first =>
      have H := HC6.out
      clear HC6
      replace H := Option.bind_eq_some_iff.mp H
      obtain ⟨t168, A90, H⟩ := H
      replace H : (if t168 = true then (if a1 < 0 then (waybilllaw23_SessionFull.j0 k a1 a2 true a0_0 a0_1 a0_2) else (if a1 > 268435456 then (waybilllaw23_SessionFull.j0 k a1 a2 true a0_0 a0_1 a0_2) else (if a2 < 0 then (waybilllaw23_SessionFull.j0 k a1 a2 true a0_0 a0_1 a0_2) else (waybilllaw23_SessionFull.j0 k a1 a2 (decide (a2 > 2147483647)) a0_0 a0_1 a0_2)))) else (waybilllaw23_SessionFull.j0 k a1 a2 true a0_0 a0_1 a0_2)) = some r := H
      have A9 := Aside0.mk A90
      clear A90
      by_cases c10 : t168 = true
      · subst c10
        have H1 : (if a1 < 0 then (waybilllaw23_SessionFull.j0 k a1 a2 true a0_0 a0_1 a0_2) else (if a1 > 268435456 then (waybilllaw23_SessionFull.j0 k a1 a2 true a0_0 a0_1 a0_2) else (if a2 < 0 then (waybilllaw23_SessionFull.j0 k a1 a2 true a0_0 a0_1 a0_2) else (waybilllaw23_SessionFull.j0 k a1 a2 (decide (a2 > 2147483647)) a0_0 a0_1 a0_2)))) = some r := by rw [if_pos rfl] at H; exact H
        clear H
        have H := H1
        clear H1
        by_cases c11 : a1 < 0
        · rw [if_pos c11] at H
          have c11b0 : decide (a1 < 0) = true := decide_eq_true c11
          clear c11
          (first | rw [c11b0] | (simp only [i64_w, i32_w]; rw [c11b0]) | skip)
          have H' := Aside0.mk H
          clear H
          have hcz12_0 : w8.cell? ⟨gb166, 0, none⟩ = some (.int .i64 a0_0) := (blk_cell BK166.out 0).trans rfl
          have hcz12_1 : w8.cell? ⟨gb166, 1, none⟩ = some (.int .i64 a0_1) := (blk_cell BK166.out 1).trans rfl
          have hcz12_2 : w8.cell? ⟨gb166, 2, none⟩ = some (.int .i64 a0_2) := (blk_cell BK166.out 2).trans rfl
          have hfz12_0 := blk_frozen BK166.out 0
          have hfz12_1 := blk_frozen BK166.out 1
          have hfz12_2 := blk_frozen BK166.out 2
          go_wp2_with (first | ((with_reducible refine gate_callee (f := 16) rfl ?_); refine goesL_ (some 25) rfl rfl Try.func16 (by kernel_rfl) rfl #[.agg #[.int .i64 a0_0, .int .i64 a0_1, .int .i64 a0_2]] rfl (by (try simp only [List.map_toArray, List.map_cons, List.map_nil]); first | done | rfl | (simp only [List.length_drop, List.length_take]; rfl)) ?_; (with_reducible refine (waybillref23_Sets.calls a0_0 a0_1 a0_2 true _ A9.out).mono ?_); rintro e w13 ⟨rfl, hb⟩; refine ⟨_, rfl, ?_⟩; have n0_ := Aside0.mk (blk_below (g := gb166) (o := .cells #[.int .i64 a0_0, .int .i64 a0_1, .int .i64 a0_2] 24 (0, 0)) (by (with_reducible repeat (first | refine blk_drewN ?_ _ | refine blk_drew ?_ | refine blk_alloc ?_ _)); exact BK166.out) hb); have n1_ := Aside0.mk (below_step (by repeat (first | (with_reducible first | exact HB.out | apply below_alloc | apply pw_below_drewN | apply below_drew1 | refine below_set ?_ GE166.out) | exact HB.out)) hb); clear BK166; clear HB; have BK166 := n0_; have HB := n1_; clear n0_ n1_; (try clear hb); (try clear hb2); (try clear hk); (try clear hi)))
          go_meet
          case rel => exact ⟨_, (true), (by first | rfl | (simp; done) | (simp [*]; done)), H', ⟨by first | omega | exact Nat.le_refl _⟩, ⟨by (with_reducible repeat (first | refine blk_drewN ?_ _ | refine blk_drew ?_ | refine blk_alloc ?_ _)); exact BK166.out⟩, ⟨by repeat (first | (with_reducible first | exact HB.out | apply below_alloc | apply pw_below_drewN | apply below_drew1 | refine below_set ?_ GE166.out) | exact HB.out)⟩⟩
        · rw [if_neg c11] at H
          have c11b0 : decide (a1 < 0) = false := decide_eq_false c11
          clear c11
          (first | rw [c11b0] | (simp only [i64_w, i32_w]; rw [c11b0]) | skip)
          by_cases c14 : a1 > 268435456
          · rw [if_pos c14] at H
            have c14b0 : decide (268435456 < a1) = true := decide_eq_true c14
            clear c14
            have H' := Aside0.mk H
            clear H
            have hcz15_0 : w8.cell? ⟨gb166, 0, none⟩ = some (.int .i64 a0_0) := (blk_cell BK166.out 0).trans rfl
            have hcz15_1 : w8.cell? ⟨gb166, 1, none⟩ = some (.int .i64 a0_1) := (blk_cell BK166.out 1).trans rfl
            have hcz15_2 : w8.cell? ⟨gb166, 2, none⟩ = some (.int .i64 a0_2) := (blk_cell BK166.out 2).trans rfl
            have hfz15_0 := blk_frozen BK166.out 0
            have hfz15_1 := blk_frozen BK166.out 1
            have hfz15_2 := blk_frozen BK166.out 2
            go_wp2_with (first | ((with_reducible refine gate_callee (f := 16) rfl ?_); refine goesL_ (some 25) rfl rfl Try.func16 (by kernel_rfl) rfl #[.agg #[.int .i64 a0_0, .int .i64 a0_1, .int .i64 a0_2]] rfl (by (try simp only [List.map_toArray, List.map_cons, List.map_nil]); first | done | rfl | (simp only [List.length_drop, List.length_take]; rfl)) ?_; (with_reducible refine (waybillref23_Sets.calls a0_0 a0_1 a0_2 true _ A9.out).mono ?_); rintro e w16 ⟨rfl, hb⟩; refine ⟨_, rfl, ?_⟩; have n0_ := Aside0.mk (blk_below (g := gb166) (o := .cells #[.int .i64 a0_0, .int .i64 a0_1, .int .i64 a0_2] 24 (0, 0)) (by (with_reducible repeat (first | refine blk_drewN ?_ _ | refine blk_drew ?_ | refine blk_alloc ?_ _)); exact BK166.out) hb); have n1_ := Aside0.mk (below_step (by repeat (first | (with_reducible first | exact HB.out | apply below_alloc | apply pw_below_drewN | apply below_drew1 | refine below_set ?_ GE166.out) | exact HB.out)) hb); clear BK166; clear HB; have BK166 := n0_; have HB := n1_; clear n0_ n1_; (try clear hb); (try clear hb2); (try clear hk); (try clear hi)))
            go_meet
            case rel => exact ⟨_, (true), (by first | rfl | (simp; done) | (simp [*]; done)), H', ⟨by first | omega | exact Nat.le_refl _⟩, ⟨by (with_reducible repeat (first | refine blk_drewN ?_ _ | refine blk_drew ?_ | refine blk_alloc ?_ _)); exact BK166.out⟩, ⟨by repeat (first | (with_reducible first | exact HB.out | apply below_alloc | apply pw_below_drewN | apply below_drew1 | refine below_set ?_ GE166.out) | exact HB.out)⟩⟩
          · rw [if_neg c14] at H
            have c14b0 : decide (268435456 < a1) = false := decide_eq_false c14
            clear c14
            by_cases c17 : a2 < 0
            · rw [if_pos c17] at H
              have c17b0 : decide (a2 < 0) = true := decide_eq_true c17
              clear c17
              have H' := Aside0.mk H
              clear H
              have hcz18_0 : w8.cell? ⟨gb166, 0, none⟩ = some (.int .i64 a0_0) := (blk_cell BK166.out 0).trans rfl
              have hcz18_1 : w8.cell? ⟨gb166, 1, none⟩ = some (.int .i64 a0_1) := (blk_cell BK166.out 1).trans rfl
              have hcz18_2 : w8.cell? ⟨gb166, 2, none⟩ = some (.int .i64 a0_2) := (blk_cell BK166.out 2).trans rfl
              have hfz18_0 := blk_frozen BK166.out 0
              have hfz18_1 := blk_frozen BK166.out 1
              have hfz18_2 := blk_frozen BK166.out 2
              go_wp2_with (first | ((with_reducible refine gate_callee (f := 16) rfl ?_); refine goesL_ (some 25) rfl rfl Try.func16 (by kernel_rfl) rfl #[.agg #[.int .i64 a0_0, .int .i64 a0_1, .int .i64 a0_2]] rfl (by (try simp only [List.map_toArray, List.map_cons, List.map_nil]); first | done | rfl | (simp only [List.length_drop, List.length_take]; rfl)) ?_; (with_reducible refine (waybillref23_Sets.calls a0_0 a0_1 a0_2 true _ A9.out).mono ?_); rintro e w19 ⟨rfl, hb⟩; refine ⟨_, rfl, ?_⟩; have n0_ := Aside0.mk (blk_below (g := gb166) (o := .cells #[.int .i64 a0_0, .int .i64 a0_1, .int .i64 a0_2] 24 (0, 0)) (by (with_reducible repeat (first | refine blk_drewN ?_ _ | refine blk_drew ?_ | refine blk_alloc ?_ _)); exact BK166.out) hb); have n1_ := Aside0.mk (below_step (by repeat (first | (with_reducible first | exact HB.out | apply below_alloc | apply pw_below_drewN | apply below_drew1 | refine below_set ?_ GE166.out) | exact HB.out)) hb); clear BK166; clear HB; have BK166 := n0_; have HB := n1_; clear n0_ n1_; (try clear hb); (try clear hb2); (try clear hk); (try clear hi)))
              go_meet
              case rel => exact ⟨_, (true), (by first | rfl | (simp; done) | (simp [*]; done)), H', ⟨by first | omega | exact Nat.le_refl _⟩, ⟨by (with_reducible repeat (first | refine blk_drewN ?_ _ | refine blk_drew ?_ | refine blk_alloc ?_ _)); exact BK166.out⟩, ⟨by repeat (first | (with_reducible first | exact HB.out | apply below_alloc | apply pw_below_drewN | apply below_drew1 | refine below_set ?_ GE166.out) | exact HB.out)⟩⟩
            · rw [if_neg c17] at H
              have c17b0 : decide (a2 < 0) = false := decide_eq_false c17
              clear c17
              have H' := Aside0.mk H
              clear H
              have hcz20_0 : w8.cell? ⟨gb166, 0, none⟩ = some (.int .i64 a0_0) := (blk_cell BK166.out 0).trans rfl
              have hcz20_1 : w8.cell? ⟨gb166, 1, none⟩ = some (.int .i64 a0_1) := (blk_cell BK166.out 1).trans rfl
              have hcz20_2 : w8.cell? ⟨gb166, 2, none⟩ = some (.int .i64 a0_2) := (blk_cell BK166.out 2).trans rfl
              have hfz20_0 := blk_frozen BK166.out 0
              have hfz20_1 := blk_frozen BK166.out 1
              have hfz20_2 := blk_frozen BK166.out 2
              go_wp2_with (first | ((with_reducible refine gate_callee (f := 16) rfl ?_); refine goesL_ (some 25) rfl rfl Try.func16 (by kernel_rfl) rfl #[.agg #[.int .i64 a0_0, .int .i64 a0_1, .int .i64 a0_2]] rfl (by (try simp only [List.map_toArray, List.map_cons, List.map_nil]); first | done | rfl | (simp only [List.length_drop, List.length_take]; rfl)) ?_; (with_reducible refine (waybillref23_Sets.calls a0_0 a0_1 a0_2 true _ A9.out).mono ?_); rintro e w21 ⟨rfl, hb⟩; refine ⟨_, rfl, ?_⟩; have n0_ := Aside0.mk (blk_below (g := gb166) (o := .cells #[.int .i64 a0_0, .int .i64 a0_1, .int .i64 a0_2] 24 (0, 0)) (by (with_reducible repeat (first | refine blk_drewN ?_ _ | refine blk_drew ?_ | refine blk_alloc ?_ _)); exact BK166.out) hb); have n1_ := Aside0.mk (below_step (by repeat (first | (with_reducible first | exact HB.out | apply below_alloc | apply pw_below_drewN | apply below_drew1 | refine below_set ?_ GE166.out) | exact HB.out)) hb); clear BK166; clear HB; have BK166 := n0_; have HB := n1_; clear n0_ n1_; (try clear hb); (try clear hb2); (try clear hk); (try clear hi)))
              go_meet
              case rel => exact ⟨_, (decide (a2 > 2147483647)), (by first | rfl | (simp; done) | (simp [*]; done)), H', ⟨by first | omega | exact Nat.le_refl _⟩, ⟨by (with_reducible repeat (first | refine blk_drewN ?_ _ | refine blk_drew ?_ | refine blk_alloc ?_ _)); exact BK166.out⟩, ⟨by repeat (first | (with_reducible first | exact HB.out | apply below_alloc | apply pw_below_drewN | apply below_drew1 | refine below_set ?_ GE166.out) | exact HB.out)⟩⟩
      · replace c10 := Bool.eq_false_iff.mpr c10
        subst c10
        have H1 : (waybilllaw23_SessionFull.j0 k a1 a2 true a0_0 a0_1 a0_2) = some r := by rw [if_neg (show ¬ (false = true) by decide)] at H; exact H
        clear H
        have H := H1
        clear H1
        have H' := Aside0.mk H
        clear H
        have hcz22_0 : w8.cell? ⟨gb166, 0, none⟩ = some (.int .i64 a0_0) := (blk_cell BK166.out 0).trans rfl
        have hcz22_1 : w8.cell? ⟨gb166, 1, none⟩ = some (.int .i64 a0_1) := (blk_cell BK166.out 1).trans rfl
        have hcz22_2 : w8.cell? ⟨gb166, 2, none⟩ = some (.int .i64 a0_2) := (blk_cell BK166.out 2).trans rfl
        have hfz22_0 := blk_frozen BK166.out 0
        have hfz22_1 := blk_frozen BK166.out 1
        have hfz22_2 := blk_frozen BK166.out 2
        go_wp2_with (first | ((with_reducible refine gate_callee (f := 16) rfl ?_); refine goesL_ (some 25) rfl rfl Try.func16 (by kernel_rfl) rfl #[.agg #[.int .i64 a0_0, .int .i64 a0_1, .int .i64 a0_2]] rfl (by (try simp only [List.map_toArray, List.map_cons, List.map_nil]); first | done | rfl | (simp only [List.length_drop, List.length_take]; rfl)) ?_; (with_reducible refine (waybillref23_Sets.calls a0_0 a0_1 a0_2 false _ A9.out).mono ?_); rintro e w23 ⟨rfl, hb⟩; refine ⟨_, rfl, ?_⟩; have n0_ := Aside0.mk (blk_below (g := gb166) (o := .cells #[.int .i64 a0_0, .int .i64 a0_1, .int .i64 a0_2] 24 (0, 0)) (by (with_reducible repeat (first | refine blk_drewN ?_ _ | refine blk_drew ?_ | refine blk_alloc ?_ _)); exact BK166.out) hb); have n1_ := Aside0.mk (below_step (by repeat (first | (with_reducible first | exact HB.out | apply below_alloc | apply pw_below_drewN | apply below_drew1 | refine below_set ?_ GE166.out) | exact HB.out)) hb); clear BK166; clear HB; have BK166 := n0_; have HB := n1_; clear n0_ n1_; (try clear hb); (try clear hb2); (try clear hk); (try clear hi)))
        go_meet
        case rel => exact ⟨_, (true), (by first | rfl | (simp; done) | (simp [*]; done)), H', ⟨by first | omega | exact Nat.le_refl _⟩, ⟨by (with_reducible repeat (first | refine blk_drewN ?_ _ | refine blk_drew ?_ | refine blk_alloc ?_ _)); exact BK166.out⟩, ⟨by repeat (first | (with_reducible first | exact HB.out | apply below_alloc | apply pw_below_drewN | apply below_drew1 | refine below_set ?_ GE166.out) | exact HB.out)⟩⟩
    case rest =>
      clear HC6
      try clear c1
      try clear p2
      try clear c5
      try clear c9
      try clear c10
      try clear c11
      try clear c11b0
      try clear c14
      try clear c14b0
      try clear c16
      try clear c17
      try clear c17b0
      try clear hcz12_0
      try clear hcz12_1
      try clear hcz12_2
      try clear hcz15_0
      try clear hcz15_1
      try clear hcz15_2
      try clear hcz18_0
      try clear hcz18_1
      try clear hcz18_2
      try clear hcz20_0
      try clear hcz20_1
      try clear hcz20_2
      try clear hcz22_0
      try clear hcz22_1
      try clear hcz22_2
      try clear hfz12_0
      try clear hfz12_1
      try clear hfz12_2
      try clear hfz15_0
      try clear hfz15_1
      try clear hfz15_2
      try clear hfz18_0
      try clear hfz18_1
      try clear hfz18_2
      try clear hfz20_0
      try clear hfz20_1
      try clear hfz20_2
      try clear hfz22_0
      try clear hfz22_1
      try clear hfz22_2
      obtain ⟨kq, x42_5, rfl, HA, HJ5, BK166, HB⟩ := hcut
      cases kq with
      | zero => exact absurd HA.out (by simp [waybilllaw23_SessionFull.j0])
      | succ kj5 =>
        have H := HA.out
        clear HA
        simp only [waybilllaw23_SessionFull.j0] at H
        by_cases c24 : x42_5 = true
        · subst c24
          have H1 : (some true) = some r := by rw [if_pos rfl] at H; exact H
          clear H
          have H := H1
          clear H1
          obtain rfl := Option.some.inj H
          simp only [Option.some.injEq, Prod.mk.injEq] at H
          obtain ⟨rfl⟩ := H
          go_wp2
          go_ret
          exact ⟨by first | rfl | (simp [errW_none, errW_some] <;> rfl) | (simp [*, errW_none, errW_some] <;> rfl), by repeat (first | (with_reducible first | exact HB.out | apply below_alloc | apply pw_below_drewN | apply below_drew1 | refine below_set ?_ GE166.out) | exact HB.out)⟩
        · replace c24 := Bool.eq_false_iff.mpr c24
          subst c24
          have H1 : (waybilllaw23_SessionFull.l0 kj5 a1 a2 ([] : List (S38)) 1 0 a0_0 a0_1 a0_2) = some r := by rw [if_neg (show ¬ (false = true) by decide)] at H; exact H
          clear H
          have H := H1
          clear H1
          have H' := Aside0.mk H
          clear H
          go_wp2
          go_loopg [7, 8, 9] kj5 (fun kq v7 v8 v9 w' => ∃ (x7_2 : List (S38)) (x8_2 : Int) (x9_2 : Int), v8 = .int .i64 x8_2 ∧ v9 = .int .i64 x9_2 ∧ Aside0 (waybilllaw23_SessionFull.l0 kq a1 a2 x7_2 x8_2 x9_2 a0_0 a0_1 a0_2 = some r) ∧ Aside0 (kq ≤ kj5) ∧ Aside0 (Kd.R k38 38 w' w.heap.size (fun _ => True) v7 x7_2) ∧ Aside0 (w'.heap[gb166]? = some (.cells #[.int .i64 a0_0, .int .i64 a0_1, .int .i64 a0_2] 24 (0, 0))) ∧ Aside0 (Below w.heap.size w w'))
          case atStart => exact ⟨(([] : List (S38))), (1), (0), (by first | rfl | (simp; done) | (simp [*]; done)), (by first | rfl | (simp; done) | (simp [*]; done)), H', ⟨Nat.le_refl _⟩, ⟨by first | exact Kd.R_nil _ _ _ _ _ | exact Kd.N_nil _ _ _ _ _ | exact Kd.V_nil _ _ _ _ _ | exact Kd.Q_nil _ _ _ _ _ | exact Kd.S_nil _ _ _ _ _⟩, ⟨by (with_reducible repeat (first | refine blk_drewN ?_ _ | refine blk_drew ?_ | refine blk_alloc ?_ _)); exact BK166.out⟩, ⟨by repeat (first | (with_reducible first | exact HB.out | apply below_alloc | apply pw_below_drewN | apply below_drew1 | refine below_set ?_ GE166.out) | exact HB.out)⟩⟩
          case round =>
            clear H'
            try clear c1
            try clear c2
            try clear p2
            try clear c5
            try clear c9
            try clear c10
            try clear c11
            try clear c11b0
            try clear c14
            try clear c14b0
            try clear c16
            try clear c17
            try clear c17b0
            try clear c24
            try clear hcz12_0
            try clear hcz12_1
            try clear hcz12_2
            try clear hcz15_0
            try clear hcz15_1
            try clear hcz15_2
            try clear hcz18_0
            try clear hcz18_1
            try clear hcz18_2
            try clear hcz20_0
            try clear hcz20_1
            try clear hcz20_2
            try clear hcz22_0
            try clear hcz22_1
            try clear hcz22_2
            try clear hfz12_0
            try clear hfz12_1
            try clear hfz12_2
            try clear hfz15_0
            try clear hfz15_1
            try clear hfz15_2
            try clear hfz18_0
            try clear hfz18_1
            try clear hfz18_2
            try clear hfz20_0
            try clear hfz20_1
            try clear hfz20_2
            try clear hfz22_0
            try clear hfz22_1
            try clear hfz22_2
            try clear p2
            obtain ⟨x7_2, x8_2, x9_2, rfl, rfl, HA, HK2, HO_7, BK166, HB⟩ := hrel
            cases gk with
            | zero => exact absurd HA.out (by simp [waybilllaw23_SessionFull.l0])
            | succ k2 =>
              have H := HA.out
              clear HA
              simp only [waybilllaw23_SessionFull.l0] at H
              by_cases c25 : x9_2 < a0_0
              · rw [if_pos c25] at H
                have c25b0 : decide (x9_2 < a0_0) = true := decide_eq_true c25
                clear c25
                replace H := Option.bind_eq_some_iff.mp H
                obtain ⟨⟨t169, t172, t173⟩, A260, H⟩ := H
                replace H : ((waybilllaw23_num.f t173).bind fun t174 => (if t174 = 0 then (waybilllaw23_SessionFull.l0 k2 a1 a2 t169 t172 (wrap64 (x9_2 + 1)) a0_0 a0_1 a0_2) else (some false))) = some r := H
                have A26 := Aside0.mk A260
                clear A260
                replace H := Option.bind_eq_some_iff.mp H
                obtain ⟨t174, A270, H⟩ := H
                replace H : (if t174 = 0 then (waybilllaw23_SessionFull.l0 k2 a1 a2 t169 t172 (wrap64 (x9_2 + 1)) a0_0 a0_1 a0_2) else (some false)) = some r := H
                have A27 := Aside0.mk A270
                clear A270
                by_cases c28 : t174 = 0
                · rw [if_pos c28] at H
                  have c28b0 : (t174 == 0) = true := beq_iff_eq.mpr c28
                  have c28b1 : (t174 != 0) = false := bne_eq_false_iff_eq.mpr c28
                  clear c28
                  have H' := Aside0.mk H
                  clear H
                  have hcz29_0 : wr.cell? ⟨gb166, 0, none⟩ = some (.int .i64 a0_0) := (blk_cell BK166.out 0).trans rfl
                  have hcz29_1 : wr.cell? ⟨gb166, 1, none⟩ = some (.int .i64 a0_1) := (blk_cell BK166.out 1).trans rfl
                  have hcz29_2 : wr.cell? ⟨gb166, 2, none⟩ = some (.int .i64 a0_2) := (blk_cell BK166.out 2).trans rfl
                  have hfz29_0 := blk_frozen BK166.out 0
                  have hfz29_1 := blk_frozen BK166.out 1
                  have hfz29_2 := blk_frozen BK166.out 2
                  obtain ⟨Ao30, co30, eo30⟩ := Kd.R_slice HO_7.out
                  subst eo30
                  go_wp2_with (first | ((with_reducible refine gate_callee (f := 10) rfl ?_); refine goesL_ (some 55) rfl rfl Try.func10 (by kernel_rfl) rfl #[.slice Ao30 x7_2.length co30, .agg #[.int .i64 a0_0, .int .i64 a0_1, .int .i64 a0_2], .int .i64 x8_2, .int .i64 a1, .int .i64 a2] rfl (by (try simp only [List.map_toArray, List.map_cons, List.map_nil]); first | done | rfl | (simp only [List.length_drop, List.length_take]; rfl)) ?_; (with_reducible refine (session_Open.calls _ _ x7_2 a0_0 a0_1 a0_2 x8_2 a1 a2 t169 t172 t173 _ ?side1 ?side2 A26.out).mono ?_); (case side1 => repeat (first | exact (Kd.R_reads' HO_7.out).2.2 | (with_reducible refine Kd.C_alloc ?_ _) | (with_reducible refine Kd.C_drewN ?_ _) | (with_reducible refine Kd.C_drew ?_))); (case side2 => exact (Kd.R_reads' HO_7.out).2.1); rintro e w31 ⟨v170, rfl, ho0, hb⟩; refine ⟨_, rfl, ?_⟩; have n0_ := Aside0.mk (Kd.R_elder' (by (with_reducible repeat (first | apply Kd.R_alloc | apply Kd.R_drewN | apply Kd.R_drew)); exact HO_7.out) (Kd.R_base ho0) hb); have n1_ := Aside0.mk (Kd.R_lower (Kd.R_new' ho0 (Kd.R_lt (by (with_reducible repeat (first | apply Kd.R_alloc | apply Kd.R_drewN | apply Kd.R_drew)); exact HO_7.out))) (below_size (by repeat (first | (with_reducible first | exact HB.out | apply below_alloc | apply pw_below_drewN | apply below_drew1 | refine below_set ?_ GE166.out) | exact HB.out)))); have n2_ := Aside0.mk (blk_below (g := gb166) (o := .cells #[.int .i64 a0_0, .int .i64 a0_1, .int .i64 a0_2] 24 (0, 0)) (by (with_reducible repeat (first | refine blk_drewN ?_ _ | refine blk_drew ?_ | refine blk_alloc ?_ _)); exact BK166.out) hb); have n3_ := Aside0.mk (below_step (by repeat (first | (with_reducible first | exact HB.out | apply below_alloc | apply pw_below_drewN | apply below_drew1 | refine below_set ?_ GE166.out) | exact HB.out)) hb); clear HO_7; clear BK166; clear HB; have HO_7 := n0_; have HO171 := n1_; have BK166 := n2_; have HB := n3_; clear n0_ n1_ n2_ n3_; (try clear hb); (try clear hb2); (try clear hk); (try clear hi); (try clear ho0)) | ((with_reducible refine gate_callee (f := 11) rfl ?_); refine goesL_ (some 60) rfl rfl Try.func11 (by kernel_rfl) rfl #[.int .i64 t173] rfl (by (try simp only [List.map_toArray, List.map_cons, List.map_nil]); first | done | rfl | (simp only [List.length_drop, List.length_take]; rfl)) ?_; (with_reducible refine (waybilllaw23_num.calls t173 t174 _ A27.out).mono ?_); rintro e w' ⟨rfl, ⟨nd, rfl⟩⟩; refine ⟨_, rfl, ?_⟩))
                  go_roundg k2
                  case measure => have := HJ5.out; have := HK2.out; omega
                  case rel => exact ⟨(t169), (t172), (wrap64 (x9_2 + 1)), (by first | rfl | (simp; done) | (simp [*]; done)), (by first | rfl | (simp; done) | (simp [*]; done)), H', ⟨by have := HJ5.out; have := HK2.out; omega⟩, ⟨by (with_reducible repeat (first | apply Kd.R_alloc | apply Kd.R_drewN | apply Kd.R_drew)); exact Kd.R_mono HO171.out (fun _ hk => trivial)⟩, ⟨by (with_reducible repeat (first | refine blk_drewN ?_ _ | refine blk_drew ?_ | refine blk_alloc ?_ _)); exact BK166.out⟩, ⟨by repeat (first | (with_reducible first | exact HB.out | apply below_alloc | apply pw_below_drewN | apply below_drew1 | refine below_set ?_ GE166.out) | exact HB.out)⟩⟩
                · rw [if_neg c28] at H
                  have c28b0 : (t174 == 0) = false := beq_eq_false_iff_ne.mpr c28
                  have c28b1 : (t174 != 0) = true := bne_iff_ne.mpr c28
                  obtain rfl := Option.some.inj H
                  cases hrt
              · rw [if_neg c25] at H
                have c25b0 : decide (x9_2 < a0_0) = false := decide_eq_false c25
                clear c25
                replace H := Option.bind_eq_some_iff.mp H
                obtain ⟨⟨t175, t178, t179⟩, A320, H⟩ := H
                replace H : ((session_Expire.f x7_2 a0_0 a0_1 a0_2 x8_2 (wrap64 (a1 + a0_1))).bind fun bt180 => ((session_Open.f bt180.1 a0_0 a0_1 a0_2 x8_2 (wrap64 (a1 + a0_1)) a2).bind fun bt187 => ((waybilllaw23_num.f t179).bind fun t192 => (if t192 = 72 then ((waybilllaw23_num.f bt180.2.2).bind fun t193 => ((waybilllaw23_num.f bt187.2.2).bind fun t194 => (if (wrap64 (t193 + t194)) = 0 then (if (bt180.2.1.length : Int) = a0_0 then (some ((bt180.1.length : Int) == 0)) else (some false)) else (some false)))) else (some false))))) = some r := H
                have A32 := Aside0.mk A320
                clear A320
                replace H := Option.bind_eq_some_iff.mp H
                obtain ⟨⟨t180, t183, t186⟩, A330, H⟩ := H
                replace H : ((session_Open.f t180 a0_0 a0_1 a0_2 x8_2 (wrap64 (a1 + a0_1)) a2).bind fun bt187 => ((waybilllaw23_num.f t179).bind fun t192 => (if t192 = 72 then ((waybilllaw23_num.f t186).bind fun t193 => ((waybilllaw23_num.f bt187.2.2).bind fun t194 => (if (wrap64 (t193 + t194)) = 0 then (if (t183.length : Int) = a0_0 then (some ((t180.length : Int) == 0)) else (some false)) else (some false)))) else (some false)))) = some r := H
                have A33 := Aside0.mk A330
                clear A330
                replace H := Option.bind_eq_some_iff.mp H
                obtain ⟨⟨t187, t190, t191⟩, A340, H⟩ := H
                replace H : ((waybilllaw23_num.f t179).bind fun t192 => (if t192 = 72 then ((waybilllaw23_num.f t186).bind fun t193 => ((waybilllaw23_num.f t191).bind fun t194 => (if (wrap64 (t193 + t194)) = 0 then (if (t183.length : Int) = a0_0 then (some ((t180.length : Int) == 0)) else (some false)) else (some false)))) else (some false))) = some r := H
                have A34 := Aside0.mk A340
                clear A340
                replace H := Option.bind_eq_some_iff.mp H
                obtain ⟨t192, A350, H⟩ := H
                replace H : (if t192 = 72 then ((waybilllaw23_num.f t186).bind fun t193 => ((waybilllaw23_num.f t191).bind fun t194 => (if (wrap64 (t193 + t194)) = 0 then (if (t183.length : Int) = a0_0 then (some ((t180.length : Int) == 0)) else (some false)) else (some false)))) else (some false)) = some r := H
                have A35 := Aside0.mk A350
                clear A350
                by_cases c36 : t192 = 72
                · rw [if_pos c36] at H
                  have c36b0 : (t192 == 72) = true := beq_iff_eq.mpr c36
                  have c36b1 : (t192 != 72) = false := bne_eq_false_iff_eq.mpr c36
                  clear c36
                  replace H := Option.bind_eq_some_iff.mp H
                  obtain ⟨t193, A370, H⟩ := H
                  replace H : ((waybilllaw23_num.f t191).bind fun t194 => (if (wrap64 (t193 + t194)) = 0 then (if (t183.length : Int) = a0_0 then (some ((t180.length : Int) == 0)) else (some false)) else (some false))) = some r := H
                  have A37 := Aside0.mk A370
                  clear A370
                  replace H := Option.bind_eq_some_iff.mp H
                  obtain ⟨t194, A380, H⟩ := H
                  replace H : (if (wrap64 (t193 + t194)) = 0 then (if (t183.length : Int) = a0_0 then (some ((t180.length : Int) == 0)) else (some false)) else (some false)) = some r := H
                  have A38 := Aside0.mk A380
                  clear A380
                  by_cases c39 : (wrap64 (t193 + t194)) = 0
                  · rw [if_pos c39] at H
                    have c39b0 : ((wrap64 (t193 + t194)) == 0) = true := beq_iff_eq.mpr c39
                    have c39b1 : ((wrap64 (t193 + t194)) != 0) = false := bne_eq_false_iff_eq.mpr c39
                    clear c39
                    by_cases c40 : (t183.length : Int) = a0_0
                    · rw [if_pos c40] at H
                      have c40b0 : ((t183.length : Int) == a0_0) = true := beq_iff_eq.mpr c40
                      have c40b1 : ((t183.length : Int) != a0_0) = false := bne_eq_false_iff_eq.mpr c40
                      clear c40
                      obtain rfl := Option.some.inj H
                      simp only [Option.some.injEq, Prod.mk.injEq] at H
                      obtain ⟨rfl⟩ := H
                      have hcz41_0 : wr.cell? ⟨gb166, 0, none⟩ = some (.int .i64 a0_0) := (blk_cell BK166.out 0).trans rfl
                      have hcz41_1 : wr.cell? ⟨gb166, 1, none⟩ = some (.int .i64 a0_1) := (blk_cell BK166.out 1).trans rfl
                      have hcz41_2 : wr.cell? ⟨gb166, 2, none⟩ = some (.int .i64 a0_2) := (blk_cell BK166.out 2).trans rfl
                      have hfz41_0 := blk_frozen BK166.out 0
                      have hfz41_1 := blk_frozen BK166.out 1
                      have hfz41_2 := blk_frozen BK166.out 2
                      obtain ⟨Ao42, co42, eo42⟩ := Kd.R_slice HO_7.out
                      subst eo42
                      go_wp2_with (first | ((with_reducible refine gate_callee (f := 10) rfl ?_); refine goesL_ (some 70) rfl rfl Try.func10 (by kernel_rfl) rfl #[.slice Ao42 x7_2.length co42, .agg #[.int .i64 a0_0, .int .i64 a0_1, .int .i64 a0_2], .int .i64 x8_2, .int .i64 a1, .int .i64 a2] rfl (by (try simp only [List.map_toArray, List.map_cons, List.map_nil]); first | done | rfl | (simp only [List.length_drop, List.length_take]; rfl)) ?_; (with_reducible refine (session_Open.calls _ _ x7_2 a0_0 a0_1 a0_2 x8_2 a1 a2 t175 t178 t179 _ ?side1 ?side2 A32.out).mono ?_); (case side1 => repeat (first | exact (Kd.R_reads' HO_7.out).2.2 | (with_reducible refine Kd.C_alloc ?_ _) | (with_reducible refine Kd.C_drewN ?_ _) | (with_reducible refine Kd.C_drew ?_))); (case side2 => exact (Kd.R_reads' HO_7.out).2.1); rintro e w43 ⟨v176, rfl, ho0, hb⟩; refine ⟨_, rfl, ?_⟩; have n0_ := Aside0.mk (Kd.R_elder' (by (with_reducible repeat (first | apply Kd.R_alloc | apply Kd.R_drewN | apply Kd.R_drew)); exact HO_7.out) (Kd.R_base ho0) hb); have n1_ := Aside0.mk (Kd.R_lower (Kd.R_new' ho0 (Kd.R_lt (by (with_reducible repeat (first | apply Kd.R_alloc | apply Kd.R_drewN | apply Kd.R_drew)); exact HO_7.out))) (below_size (by repeat (first | (with_reducible first | exact HB.out | apply below_alloc | apply pw_below_drewN | apply below_drew1 | refine below_set ?_ GE166.out) | exact HB.out)))); have n2_ := Aside0.mk (blk_below (g := gb166) (o := .cells #[.int .i64 a0_0, .int .i64 a0_1, .int .i64 a0_2] 24 (0, 0)) (by (with_reducible repeat (first | refine blk_drewN ?_ _ | refine blk_drew ?_ | refine blk_alloc ?_ _)); exact BK166.out) hb); have n3_ := Aside0.mk (below_step (by repeat (first | (with_reducible first | exact HB.out | apply below_alloc | apply pw_below_drewN | apply below_drew1 | refine below_set ?_ GE166.out) | exact HB.out)) hb); clear HO_7; clear BK166; clear HB; have HO_7 := n0_; have HO177 := n1_; have BK166 := n2_; have HB := n3_; clear n0_ n1_ n2_ n3_; (try clear hb); (try clear hb2); (try clear hk); (try clear hi); (try clear ho0); have hcz44_0 : w43.cell? ⟨gb166, 0, none⟩ = some (.int .i64 a0_0) := (blk_cell BK166.out 0).trans rfl; have hcz44_1 : w43.cell? ⟨gb166, 1, none⟩ = some (.int .i64 a0_1) := (blk_cell BK166.out 1).trans rfl; have hcz44_2 : w43.cell? ⟨gb166, 2, none⟩ = some (.int .i64 a0_2) := (blk_cell BK166.out 2).trans rfl; have hfz44_0 := blk_frozen BK166.out 0; have hfz44_1 := blk_frozen BK166.out 1; have hfz44_2 := blk_frozen BK166.out 2) | ((with_reducible refine gate_callee (f := 14) rfl ?_); refine goesL_ (some 82) rfl rfl Try.func14 (by kernel_rfl) rfl #[.slice Ao42 x7_2.length co42, .agg #[.int .i64 a0_0, .int .i64 a0_1, .int .i64 a0_2], .int .i64 x8_2, .int .i64 (wrap64 (a1 + a0_1))] rfl (by (try simp only [List.map_toArray, List.map_cons, List.map_nil]); first | done | rfl | (simp only [List.length_drop, List.length_take]; rfl)) ?_; (with_reducible refine (session_Expire.calls _ _ x7_2 a0_0 a0_1 a0_2 x8_2 (wrap64 (a1 + a0_1)) t180 t183 t186 _ ?side1 ?side2 A33.out).mono ?_); (case side1 => repeat (first | exact (Kd.R_reads' HO_7.out).2.2 | (with_reducible refine Kd.C_alloc ?_ _) | (with_reducible refine Kd.C_drewN ?_ _) | (with_reducible refine Kd.C_drew ?_))); (case side2 => exact (Kd.R_reads' HO_7.out).2.1); rintro e w45 ⟨v181, v184, rfl, ho0, ho1, hb⟩; refine ⟨_, rfl, ?_⟩; have n0_ := Aside0.mk (Kd.R_elder' (by (with_reducible repeat (first | apply Kd.R_alloc | apply Kd.R_drewN | apply Kd.R_drew)); exact HO_7.out) (Kd.R_base ho0) hb); have n1_ := Aside0.mk (Kd.R_elder' (by (with_reducible repeat (first | apply Kd.R_alloc | apply Kd.R_drewN | apply Kd.R_drew)); exact HO177.out) (Kd.R_base ho0) hb); have n2_ := Aside0.mk (Kd.R_lower (Kd.R_new' (Kd.R_new' ho0 (Kd.R_lt (by (with_reducible repeat (first | apply Kd.R_alloc | apply Kd.R_drewN | apply Kd.R_drew)); exact HO_7.out))) (Kd.R_lt (by (with_reducible repeat (first | apply Kd.R_alloc | apply Kd.R_drewN | apply Kd.R_drew)); exact HO177.out))) (below_size (by repeat (first | (with_reducible first | exact HB.out | apply below_alloc | apply pw_below_drewN | apply below_drew1 | refine below_set ?_ GE166.out) | exact HB.out)))); have n3_ := Aside0.mk (Kd.R_lower ho1 (below_size (by repeat (first | (with_reducible first | exact HB.out | apply below_alloc | apply pw_below_drewN | apply below_drew1 | refine below_set ?_ GE166.out) | exact HB.out)))); have n4_ := Aside0.mk (blk_below (g := gb166) (o := .cells #[.int .i64 a0_0, .int .i64 a0_1, .int .i64 a0_2] 24 (0, 0)) (by (with_reducible repeat (first | refine blk_drewN ?_ _ | refine blk_drew ?_ | refine blk_alloc ?_ _)); exact BK166.out) hb); have n5_ := Aside0.mk (below_step (by repeat (first | (with_reducible first | exact HB.out | apply below_alloc | apply pw_below_drewN | apply below_drew1 | refine below_set ?_ GE166.out) | exact HB.out)) hb); clear HO_7; clear HO177; clear BK166; clear HB; have HO_7 := n0_; have HO177 := n1_; have HO182 := n2_; have HO185 := n3_; have BK166 := n4_; have HB := n5_; clear n0_ n1_ n2_ n3_ n4_ n5_; (try clear hb); (try clear hb2); (try clear hk); (try clear hi); (try clear ho0); (try clear ho1); have hcz46_0 : w45.cell? ⟨gb166, 0, none⟩ = some (.int .i64 a0_0) := (blk_cell BK166.out 0).trans rfl; have hcz46_1 : w45.cell? ⟨gb166, 1, none⟩ = some (.int .i64 a0_1) := (blk_cell BK166.out 1).trans rfl; have hcz46_2 : w45.cell? ⟨gb166, 2, none⟩ = some (.int .i64 a0_2) := (blk_cell BK166.out 2).trans rfl; have hfz46_0 := blk_frozen BK166.out 0; have hfz46_1 := blk_frozen BK166.out 1; have hfz46_2 := blk_frozen BK166.out 2; obtain ⟨Ao47, co47, eo47⟩ := Kd.R_slice HO182.out; subst eo47) | ((with_reducible refine gate_callee (f := 10) rfl ?_); refine goesL_ (some 95) rfl rfl Try.func10 (by kernel_rfl) rfl #[.slice Ao47 t180.length co47, .agg #[.int .i64 a0_0, .int .i64 a0_1, .int .i64 a0_2], .int .i64 x8_2, .int .i64 (wrap64 (a1 + a0_1)), .int .i64 a2] rfl (by (try simp only [List.map_toArray, List.map_cons, List.map_nil]); first | done | rfl | (simp only [List.length_drop, List.length_take]; rfl)) ?_; (with_reducible refine (session_Open.calls _ _ t180 a0_0 a0_1 a0_2 x8_2 (wrap64 (a1 + a0_1)) a2 t187 t190 t191 _ ?side1 ?side2 A34.out).mono ?_); (case side1 => repeat (first | exact (Kd.R_reads' HO182.out).2.2 | (with_reducible refine Kd.C_alloc ?_ _) | (with_reducible refine Kd.C_drewN ?_ _) | (with_reducible refine Kd.C_drew ?_))); (case side2 => exact (Kd.R_reads' HO182.out).2.1); rintro e w48 ⟨v188, rfl, ho0, hb⟩; refine ⟨_, rfl, ?_⟩; have n0_ := Aside0.mk (Kd.R_elder' (by (with_reducible repeat (first | apply Kd.R_alloc | apply Kd.R_drewN | apply Kd.R_drew)); exact HO_7.out) (Kd.R_base ho0) hb); have n1_ := Aside0.mk (Kd.R_elder' (by (with_reducible repeat (first | apply Kd.R_alloc | apply Kd.R_drewN | apply Kd.R_drew)); exact HO177.out) (Kd.R_base ho0) hb); have n2_ := Aside0.mk (Kd.R_elder' (by (with_reducible repeat (first | apply Kd.R_alloc | apply Kd.R_drewN | apply Kd.R_drew)); exact HO182.out) (Kd.R_base ho0) hb); have n3_ := Aside0.mk (Kd.R_below (by (with_reducible repeat (first | apply Kd.R_alloc | apply Kd.R_drewN | apply Kd.R_drew)); exact HO185.out) hb); have n4_ := Aside0.mk (Kd.R_lower (Kd.R_new' (Kd.R_new' (Kd.R_new' ho0 (Kd.R_lt (by (with_reducible repeat (first | apply Kd.R_alloc | apply Kd.R_drewN | apply Kd.R_drew)); exact HO_7.out))) (Kd.R_lt (by (with_reducible repeat (first | apply Kd.R_alloc | apply Kd.R_drewN | apply Kd.R_drew)); exact HO177.out))) (Kd.R_lt (by (with_reducible repeat (first | apply Kd.R_alloc | apply Kd.R_drewN | apply Kd.R_drew)); exact HO182.out))) (below_size (by repeat (first | (with_reducible first | exact HB.out | apply below_alloc | apply pw_below_drewN | apply below_drew1 | refine below_set ?_ GE166.out) | exact HB.out)))); have n5_ := Aside0.mk (blk_below (g := gb166) (o := .cells #[.int .i64 a0_0, .int .i64 a0_1, .int .i64 a0_2] 24 (0, 0)) (by (with_reducible repeat (first | refine blk_drewN ?_ _ | refine blk_drew ?_ | refine blk_alloc ?_ _)); exact BK166.out) hb); have n6_ := Aside0.mk (below_step (by repeat (first | (with_reducible first | exact HB.out | apply below_alloc | apply pw_below_drewN | apply below_drew1 | refine below_set ?_ GE166.out) | exact HB.out)) hb); clear HO_7; clear HO177; clear HO182; clear HO185; clear BK166; clear HB; have HO_7 := n0_; have HO177 := n1_; have HO182 := n2_; have HO185 := n3_; have HO189 := n4_; have BK166 := n5_; have HB := n6_; clear n0_ n1_ n2_ n3_ n4_ n5_ n6_; (try clear hb); (try clear hb2); (try clear hk); (try clear hi); (try clear ho0)) | ((with_reducible refine gate_callee (f := 11) rfl ?_); refine goesL_ (some 100) rfl rfl Try.func11 (by kernel_rfl) rfl #[.int .i64 t179] rfl (by (try simp only [List.map_toArray, List.map_cons, List.map_nil]); first | done | rfl | (simp only [List.length_drop, List.length_take]; rfl)) ?_; (with_reducible refine (waybilllaw23_num.calls t179 t192 _ A35.out).mono ?_); rintro e w' ⟨rfl, ⟨nd, rfl⟩⟩; refine ⟨_, rfl, ?_⟩) | (go_at_call 11; (with_reducible refine (waybilllaw23_num.calls t186 t193 _ A37.out).mono ?_); rintro e w' ⟨rfl, ⟨nd, rfl⟩⟩) | (go_at_call 11; (with_reducible refine (waybilllaw23_num.calls t191 t194 _ A38.out).mono ?_); rintro e w' ⟨rfl, ⟨nd, rfl⟩⟩; obtain ⟨Ao49, co49, eo49⟩ := Kd.R_slice HO185.out; subst eo49; have hcz50_0 : w48.cell? ⟨gb166, 0, none⟩ = some (.int .i64 a0_0) := (blk_cell BK166.out 0).trans rfl; have hcz50_1 : w48.cell? ⟨gb166, 1, none⟩ = some (.int .i64 a0_1) := (blk_cell BK166.out 1).trans rfl; have hcz50_2 : w48.cell? ⟨gb166, 2, none⟩ = some (.int .i64 a0_2) := (blk_cell BK166.out 2).trans rfl; have hfz50_0 := blk_frozen BK166.out 0; have hfz50_1 := blk_frozen BK166.out 1; have hfz50_2 := blk_frozen BK166.out 2))
                      go_ret
                      exact ⟨by first | rfl | (simp [errW_none, errW_some] <;> rfl) | (simp [*, errW_none, errW_some] <;> rfl), by repeat (first | (with_reducible first | exact HB.out | apply below_alloc | apply pw_below_drewN | apply below_drew1 | refine below_set ?_ GE166.out) | exact HB.out)⟩
                    · rw [if_neg c40] at H
                      have c40b0 : ((t183.length : Int) == a0_0) = false := beq_eq_false_iff_ne.mpr c40
                      have c40b1 : ((t183.length : Int) != a0_0) = true := bne_iff_ne.mpr c40
                      obtain rfl := Option.some.inj H
                      cases hrt
                  · rw [if_neg c39] at H
                    have c39b0 : ((wrap64 (t193 + t194)) == 0) = false := beq_eq_false_iff_ne.mpr c39
                    have c39b1 : ((wrap64 (t193 + t194)) != 0) = true := bne_iff_ne.mpr c39
                    obtain rfl := Option.some.inj H
                    cases hrt
                · rw [if_neg c36] at H
                  have c36b0 : (t192 == 72) = false := beq_eq_false_iff_ne.mpr c36
                  have c36b1 : (t192 != 72) = true := bne_iff_ne.mpr c36
                  obtain rfl := Option.some.inj H
                  cases hrt
  · replace c5 := Bool.eq_false_iff.mpr c5
    subst c5
    have H1 : (some false) = some r := by rw [if_neg (show ¬ (false = true) by decide)] at H; exact H
    clear H
    have H := H1
    clear H1
    obtain rfl := Option.some.inj H
    cases hrt
end Go.Proofs.Ythfjgfldmkdlnaa.G
end

section
set_option linter.unusedVariables false
set_option linter.unusedSimpArgs false
namespace Go.Proofs.Ythfjgfldmkdlnaa.Pure
open WB Go Go.RowKit Go.Proofs.Ythfjgfldmkdlnaa.G Go.Proofs.YthfjgfldmkdlnaaW.PrintWords Go.Proofs.YthfjgfldmkdlnaaW.PrintLast Go.Proofs.YthfjgfldmkdlnaaW.PrintMore
theorem num_f (x : Int) : waybilllaw23_num.f x = some x := rfl
theorem open_f (l : List S38) (a b c n t cl : Int) : session_Open.f l a b c n t cl = some (openS l a b c n t cl) := rfl
theorem exp_f (l : List S38) (a b c n t : Int) : session_Expire.f l a b c n t = some (expireS l a b c n t) := rfl
theorem alive_f : waybilllaw23_alive.f = some true := by
  unfold waybilllaw23_alive.f
  rw [open_f, Option.bind_some]
  kernel_rfl
theorem rsets_f (a b c : Int) : waybillref23_Sets.f a b c = some (setsS a b c) := by
  unfold waybillref23_Sets.f setsS
  by_cases h1 : 1 ≤ a
  · by_cases h2 : a ≤ 64
    · by_cases h3 : 1 ≤ b
      · by_cases h4 : b ≤ 1048576
        · by_cases h5 : 1 ≤ c
          · simp [h1, h2, h3, h4, h5]
          · simp [h1, h2, h3, h4, h5]
        · simp [h1, h2, h3, h4]
      · simp [h1, h2, h3]
    · simp [h1, h2]
  · simp [h1]
theorem rises_pw : ∀ (l : List S38), risesS l = true ↔ l.Pairwise (fun a b => a.f0 < b.f0)
  | [] => by simp [risesS]
  | [x] => by simp [risesS]
  | x :: y :: l => by
    have ih := rises_pw (y :: l)
    simp only [risesS, Bool.and_eq_true, decide_eq_true_eq]
    rw [ih, List.pairwise_cons (a := x)]
    constructor
    · rintro ⟨h1, h2⟩
      refine ⟨fun z hz => ?_, h2⟩
      rcases List.mem_cons.1 hz with rfl | hz
      · exact h1
      · have := (List.pairwise_cons.1 h2).1 z hz; omega
    · rintro ⟨h1, h2⟩
      exact ⟨h1 y List.mem_cons_self, h2⟩
theorem check_new {size : Int} (h : 1 ≤ size ∧ size ≤ 64) : checkW 1 [] size = 0 := by
  unfold checkW
  rw [if_neg (by omega), if_neg (by simp [risesD])]
theorem may_nil {a b c n t : Int} (h : setsS a b c = true) (hn : 1 ≤ n ∧ n ≤ 1073741824) (ht : 0 ≤ t ∧ t ≤ 536870912) : MayS [] a b c n t :=
  ⟨sets_true.1 h, ⟨hn.1, hn.2, ht.1, ht.2⟩, by have := (sets_true.1 h); simp; omega, fun x hx => by simp at hx, rfl⟩
theorem may_tick {l : List S38} {a b c n t t' : Int} (h : MayS l a b c n t) (h1 : t ≤ t') (h2 : t' ≤ 536870912) : MayS l a b c n t' :=
  ⟨h.s, ⟨h.n.1, h.n.2.1, by have := h.n; omega, h2⟩, h.len, fun x hx => by have := h.od x hx; refine ⟨this.1, this.2.1, this.2.2.1, this.2.2.2.1, this.2.2.2.2.1, by omega, this.2.2.2.2.2.2⟩, h.up⟩
theorem may_open {l : List S38} {a b c n t cl : Int} (h : MayS l a b c n t) (hl : (l.length : Int) < a) (hn : n < 1073741824) (hc : 0 ≤ cl ∧ cl ≤ 2147483647) : MayS (l ++ [⟨n, cl, t, ⟨1, []⟩⟩]) a b c (n + 1) t := by
  refine ⟨h.s, by have := h.n; omega, by simp; omega, fun x hx => ?_, ?_⟩
  · rw [List.mem_append] at hx
    rcases hx with hx | hx
    · have := h.od x hx
      exact ⟨this.1, by omega, this.2.2⟩
    · simp only [List.mem_singleton] at hx
      subst hx
      have h1 := h.n
      exact ⟨h1.1, by show n < n + 1; omega, hc.1, hc.2, h1.2.2.1, Int.le_refl _, check_new (by have := h.s; omega)⟩
  · rw [rises_pw, List.pairwise_append]
    refine ⟨(rises_pw _).1 h.up, by simp, fun x hx y hy => ?_⟩
    simp only [List.mem_singleton] at hy
    subst hy
    exact (h.od x hx).2.1
theorem open_ok {l : List S38} {a b c n t cl : Int} (h : MayS l a b c n t) (hl : (l.length : Int) < a) (hn : n < 1073741824) (hc : 0 ≤ cl ∧ cl ≤ 2147483647) : openS l a b c n t cl = (l ++ [⟨n, cl, t, ⟨1, []⟩⟩], n + 1, 0) := by
  unfold openS
  rw [check_ofS h, if_neg (by simp), if_neg (by rw [out_false.2 hc]; simp), if_neg (by omega)]
theorem exp_ok {l : List S38} {a b c n t : Int} (h : MayS l a b c n t) : expireS l a b c n t = (stayS b t l, goneS b t l, 0) := by
  unfold expireS
  rw [if_pos (check_ofS h)]
theorem wrap_id {x : Int} (h : -9223372036854775808 ≤ x) (h2 : x ≤ 9223372036854775807) : wrap64 x = x := by unfold wrap64; omega
theorem over_all {l : List S38} {b t : Int} (h : ∀ x ∈ l, x.f2 + b ≤ t) : stayS b t l = [] ∧ (goneS b t l).length = l.length := by
  have h1 : ∀ x ∈ l, overS b t x = true := fun x hx => decide_eq_true (h x hx)
  constructor
  · unfold stayS
    rw [List.filter_eq_nil_iff]
    intro x hx
    rw [h1 x hx]; simp
  · unfold goneS
    rw [List.length_map, List.filter_eq_self.2 h1]
theorem full_l0 (a b c t cl : Int) (hs : setsS a b c = true) (ht : 0 ≤ t ∧ t ≤ 268435456) (hc : 0 ≤ cl ∧ cl ≤ 2147483647) : ∀ (m i : Nat) (l : List S38), (i : Int) ≤ a → a.toNat - i < m → l.length = i → MayS l a b c ((i : Int) + 1) t →
    waybilllaw23_SessionFull.l0 m t cl l ((i : Int) + 1) (i : Int) a b c = some true
  | 0, i, l, h, hm, _, _ => by omega
  | m + 1, i, l, h, hm, hl, hM => by
    have h64 := sets_true.1 hs
    simp only [waybilllaw23_SessionFull.l0]
    by_cases hi : (i : Int) < a
    · have w2 : wrap64 ((i : Int) + 1) = ((i + 1 : Nat) : Int) := by rw [wrap_id (by omega) (by omega)]; push_cast; rfl
      rw [if_pos hi, open_f, Option.bind_some, num_f, Option.bind_some, open_ok hM (by omega) (by omega) hc, if_pos rfl, w2]
      have e : ((i : Int) + 1 + 1) = ((i + 1 : Nat) : Int) + 1 := by push_cast; rfl
      show waybilllaw23_SessionFull.l0 m t cl (l ++ [_]) ((i : Int) + 1 + 1) ((i + 1 : Nat) : Int) a b c = some true
      rw [e]
      exact full_l0 a b c t cl hs ht hc m (i + 1) _ (by omega) (by omega) (by simp [hl]) (by rw [← e]; exact may_open hM (by omega) (by omega) hc)
    · have hle : wrap64 (t + b) = t + b := wrap_id (by omega) (by omega)
      have hM2 : MayS l a b c ((i : Int) + 1) (t + b) := may_tick hM (by omega) (by omega)
      obtain ⟨o1, o2⟩ := over_all (l := l) (b := b) (t := t + b) (fun x hx => by have := (hM.od x hx).2.2.2.2.2.1; omega)
      have e1 : openS l a b c ((i : Int) + 1) t cl = ([], 0, 72) := by
        unfold openS
        rw [check_ofS hM, if_neg (by simp), if_neg (by rw [out_false.2 hc]; simp), if_pos (.inl (by omega))]
      have e2 : openS [] a b c ((i : Int) + 1) (t + b) cl = _ := open_ok (may_nil hs (by omega) (by omega)) (by simp; omega) (by omega) hc
      rw [if_neg hi, open_f, Option.bind_some, exp_f, Option.bind_some, hle, exp_ok hM2, open_f, Option.bind_some, num_f, Option.bind_some, e1, if_pos rfl, num_f, Option.bind_some, num_f, Option.bind_some]
      show (if wrap64 (0 + (openS (stayS b (t + b) l) a b c ((i : Int) + 1) (t + b) cl).2.2) = 0 then _ else _) = _
      rw [o1, e2]
      show (if wrap64 (0 + 0) = 0 then (if ((goneS b (t + b) l).length : Int) = a then some (((([] : List S38).length : Nat) : Int) == 0) else some false) else some false) = some true
      rw [if_pos (by rw [wrap_id (by omega) (by omega)]; rfl), if_pos (by rw [o2]; omega)]
      rfl
theorem SessionFull (x0 : S24) (x1 x2 : Int) {p0 p1 p2 q0 q1 q2 : Prop} (_ : p0) (_ : p1) (_ : p2) (_ : q0) (_ : q1) (_ : q2) : ∃ k, waybilllaw23_SessionFull.f k x0.f0 x0.f1 x0.f2 x1 x2 = some true := by
  refine ⟨100, ?_⟩
  unfold waybilllaw23_SessionFull.f
  have hj : ∀ (m : Nat) (a b c t cl : Int), waybilllaw23_SessionFull.j0 (m + 1) t cl true a b c = some true := fun m a b c t cl => by simp [waybilllaw23_SessionFull.j0]
  rw [alive_f, Option.bind_some, if_pos rfl, rsets_f, Option.bind_some]
  by_cases hs : setsS x0.f0 x0.f1 x0.f2 = true
  · rw [if_pos hs]
    by_cases h1 : x1 < 0
    · rw [if_pos h1]; exact hj _ _ _ _ _ _
    · rw [if_neg h1]
      by_cases h2 : x1 > 268435456
      · rw [if_pos h2]; exact hj _ _ _ _ _ _
      · rw [if_neg h2]
        by_cases h3 : x2 < 0
        · rw [if_pos h3]; exact hj _ _ _ _ _ _
        · rw [if_neg h3]
          by_cases h4 : x2 > 2147483647
          · rw [decide_eq_true h4]; exact hj _ _ _ _ _ _
          · rw [decide_eq_false h4]
            have h64 := sets_true.1 hs
            simp only [waybilllaw23_SessionFull.j0]
            rw [if_neg (by simp)]
            exact full_l0 _ _ _ _ _ hs (by omega) (by omega) 99 0 [] (by omega) (by omega) rfl (may_nil hs (by omega) (by omega))
  · rw [if_neg hs]; exact hj _ _ _ _ _ _
end Go.Proofs.Ythfjgfldmkdlnaa.Pure
end
