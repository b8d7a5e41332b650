/- MessageTellsUpto: texts of this claim, packed: what the kit's print has written for it and own texts, without what its proof does not reach. -/
import Derived.Test.YtkddlhcpplkpbaaKMessageTellsUpto15
import Derived.Test.YtkddlhcpplkpbaaKMessageTellsUpto24
set_option linter.unusedVariables false
set_option linter.unusedSimpArgs false
set_option linter.unusedSectionVars false
section
namespace Go.Proofs.Ytkddlhcpplkpbaa.G
open WB Go.RowKit Go.Proofs.YtkddlhcpplkpbaaW.PrintWords Go.Proofs.YtkddlhcpplkpbaaW.PrintLast Go.Proofs.YtkddlhcpplkpbaaW.PrintMore
attribute [local go_sem] max2_int min2_int max_two min_two max_three min_three max_four min_four   -- for this text's walks alone
def waybillplain_SameMsgs.l0 : Nat → List (S25) → List (S25) → Int → Option (Bool)
 | 0, _, _, _ => none
 | k + 1, x0, x1, x5 => if x5 < (x0.length : Int) then (if 0 ≤ x5 then (if x5 < (x1.length : Int) then ((waybillplain_SameMsg.f ((rd_T25 x0 x5).f0) ((rd_T25 x0 x5).f1) ((rd_T25 x0 x5).f2) ((rd_T25 x0 x5).f3) ((rd_T25 x0 x5).f4) ((rd_T25 x0 x5).f5) ((rd_T25 x0 x5).f6) ((rd_T25 x0 x5).f7) ((rd_T25 x0 x5).f8) ((rd_T25 x0 x5).f9) ((rd_T25 x0 x5).f10) ((rd_T25 x0 x5).f11) ((rd_T25 x1 x5).f0) ((rd_T25 x1 x5).f1) ((rd_T25 x1 x5).f2) ((rd_T25 x1 x5).f3) ((rd_T25 x1 x5).f4) ((rd_T25 x1 x5).f5) ((rd_T25 x1 x5).f6) ((rd_T25 x1 x5).f7) ((rd_T25 x1 x5).f8) ((rd_T25 x1 x5).f9) ((rd_T25 x1 x5).f10) ((rd_T25 x1 x5).f11)).bind fun t349 => (if t349 = true then (waybillplain_SameMsgs.l0 k x0 x1 (wrap64 (x5 + 1))) else (some false))) else (none)) else (none)) else (some true)
def waybillplain_SameMsgs.f (k : Nat) (l0 : List (S25)) (l1 : List (S25)) : Option (Bool) := if (l0.length : Int) = (l1.length : Int) then (waybillplain_SameMsgs.l0 k l0 l1 0) else (some false)
def waybillplain_SameMsgs.T6 : Bool × List (List Nat × List Nat) := (true, [([], []), ([], []), ([0, 1], [0, 1]), ([2], [2]), ([], []), ([], []), ([4, 5], [4, 5]), ([6], [6]), ([3, 7], [3, 7]), ([8], [8])])
def waybillplain_SameMsgs.B6 : List Nat := [0, 0, 3, 7, 0, 0, 48, 112, 255, 511]
theorem waybillplain_SameMsgs.tab6 : rtab .any (opsOf Try.f22 6) = waybillplain_SameMsgs.T6 := by kernel_rfl
theorem waybillplain_SameMsgs.bits6 : waitsOk waybillplain_SameMsgs.T6.2 waybillplain_SameMsgs.B6 = true := by kernel_rfl
set_option maxHeartbeats 8000000 in
set_option maxRecDepth 100000 in
theorem waybillplain_SameMsgs.calls (k : Nat) (A0 : Option Addr) (c0 : Nat) (l0 : List (S25)) (A1 : Option Addr) (c1 : Nat) (l1 : List (S25)) (r : Bool) (w : World) (hr0 : Kd.C k25 w A0 l0.length l0) (hc0 : l0.length ≤ c0) (hr1 : Kd.C k25 w A1 l1.length l1) (hc1 : l1.length ≤ c1) (h : waybillplain_SameMsgs.f k l0 l1 = some r) :
   Calls Try.prog 22 #[.slice A0 l0.length c0, .slice A1 l1.length c1] w fun e w' => e = .returned (.bool r) ∧ Below w.heap.size w w' := by
 have hu25 := Try.underlying25
 have HR0 := Aside0.mk hr0
 have HC0 := Aside0.mk hc0
 clear hr0 hc0
 have HR1 := Aside0.mk hr1
 have HC1 := Aside0.mk hc1
 clear hr1 hc1
 have HB := Aside0.mk (Below.refl w.heap.size w)
 have H : (if (l0.length : Int) = (l1.length : Int) then (waybillplain_SameMsgs.l0 k l0 l1 0) else (some false)) = some r := h
 clear h
 by_cases c3 : (l0.length : Int) = (l1.length : Int)
 · rw [if_pos c3] at H
   have c3b0 : ((l0.length : Int) == (l1.length : Int)) = true := beq_iff_eq.mpr c3
   have c3b1 : ((l0.length : Int) != (l1.length : Int)) = false := bne_eq_false_iff_eq.mpr c3
   have c3b2 : (l0.length == l1.length) = true := by first | simpa using c3 | (simp at c3 ⊢; omega)
   clear c3
   have H' := Aside0.mk H
   clear H
   go_enter Try.func22, Try.ntmps22
   go_wp2
   go_loopg [5] k (fun kq v5 w' => ∃ (x5_1 : Int), v5 = .int .i64 x5_1 ∧ Aside0 (waybillplain_SameMsgs.l0 kq l0 l1 x5_1 = some r) ∧ Aside0 (kq ≤ k) ∧ Aside0 (Below w.heap.size w w'))
   case atStart => exact ⟨(0), (by first | rfl | (simp; done) | (simp [*]; done)), H', ⟨Nat.le_refl _⟩, ⟨by repeat (first | (with_reducible first | exact HB.out | apply below_alloc | apply pw_below_drewN | apply below_drew1) | exact HB.out)⟩⟩
   case round =>
    clear H'
    try clear c1
    try clear c2
    try clear p2
    try clear c3
    try clear c3b0
    try clear c3b1
    try clear c3b2
    obtain ⟨x5_1, rfl, HA, HK1, HB⟩ := hrel
    cases gk with
    | zero => exact absurd HA.out (by simp [waybillplain_SameMsgs.l0])
    | succ k1 =>
     have H := HA.out
     clear HA
     simp only [waybillplain_SameMsgs.l0] at H
     by_cases c4 : x5_1 < (l0.length : Int)
     · rw [if_pos c4] at H
       have c4b0 : decide (x5_1 < (l0.length : Int)) = true := decide_eq_true c4
       clear c4
       by_cases c5 : 0 ≤ x5_1
       · rw [if_pos c5] at H
         have c5b0 : decide (0 ≤ x5_1) = true := decide_eq_true c5
         clear c5
         by_cases c6 : x5_1 < (l1.length : Int)
         · rw [if_pos c6] at H
           have c6b0 : decide (x5_1 < (l1.length : Int)) = true := decide_eq_true c6
           clear c6
           replace H := Option.bind_eq_some_iff.mp H
           obtain ⟨t349, A70, H⟩ := H
           replace H : (if t349 = true then (waybillplain_SameMsgs.l0 k1 l0 l1 (wrap64 (x5_1 + 1))) else (some false)) = some r := H
           have A7 := Aside0.mk A70
           clear A70
           by_cases c8 : t349 = true
           · subst c8
             have H1 : (waybillplain_SameMsgs.l0 k1 l0 l1 (wrap64 (x5_1 + 1))) = some r := by rw [if_pos rfl] at H; exact H
             clear H
             have H := H1
             clear H1
             have H' := Aside0.mk H
             clear H
             try go_wp2
             have n0_ := Aside0.mk (below_drew1 HB.out)
             clear HB
             have HB := n0_
             clear n0_
             have p347 : 0 ≤ (x5_1 : Int) := of_decide_eq_true (by assumption)
             have q347 : x5_1 < (l0.length : Int) := of_decide_eq_true (by assumption)
             obtain ⟨ad347, A347_11, c347_11, e347, hx347_0, hx347_1, hx347_2, hx347_3, hx347_4, hx347_5, hx347_6, hx347_7, hx347_8, hx347_9, hx347_10, hx347_11, hl347_11, hi347_11⟩ := at_T25 HR0.out x5_1 p347 q347
             have hw347_11 := hx347_11
             have hw347_10 := hx347_10
             have hw347_9 := hx347_9
             have hw347_8 := hx347_8
             have hw347_7 := hx347_7
             have hw347_6 := hx347_6
             have hw347_5 := hx347_5
             have hw347_4 := hx347_4
             have hw347_3 := hx347_3
             have hw347_2 := hx347_2
             have hw347_1 := hx347_1
             have hw347_0 := hx347_0
             cases e347
             replace hx347_0 := (HB.out.cell (World.block_lt_of_cell? w _ hx347_0)).trans hx347_0
             replace hx347_1 := (HB.out.cell (World.block_lt_of_cell? w _ hx347_1)).trans hx347_1
             replace hx347_2 := (HB.out.cell (World.block_lt_of_cell? w _ hx347_2)).trans hx347_2
             replace hx347_3 := (HB.out.cell (World.block_lt_of_cell? w _ hx347_3)).trans hx347_3
             replace hx347_4 := (HB.out.cell (World.block_lt_of_cell? w _ hx347_4)).trans hx347_4
             replace hx347_5 := (HB.out.cell (World.block_lt_of_cell? w _ hx347_5)).trans hx347_5
             replace hx347_6 := (HB.out.cell (World.block_lt_of_cell? w _ hx347_6)).trans hx347_6
             replace hx347_7 := (HB.out.cell (World.block_lt_of_cell? w _ hx347_7)).trans hx347_7
             replace hx347_8 := (HB.out.cell (World.block_lt_of_cell? w _ hx347_8)).trans hx347_8
             replace hx347_9 := (HB.out.cell (World.block_lt_of_cell? w _ hx347_9)).trans hx347_9
             replace hx347_10 := (HB.out.cell (World.block_lt_of_cell? w _ hx347_10)).trans hx347_10
             replace hx347_11 := (HB.out.cell (World.block_lt_of_cell? w _ hx347_11)).trans hx347_11
             have HR347_11 := Aside0.mk hi347_11
             have HC347_11 := Aside0.mk hl347_11
             clear hi347_11 hl347_11
             replace p347 := eq_true p347
             replace q347 := eq_true q347
             have p348 : 0 ≤ (x5_1 : Int) := of_decide_eq_true (by assumption)
             have q348 : x5_1 < (l1.length : Int) := of_decide_eq_true (by assumption)
             obtain ⟨ad348, A348_11, c348_11, e348, hx348_0, hx348_1, hx348_2, hx348_3, hx348_4, hx348_5, hx348_6, hx348_7, hx348_8, hx348_9, hx348_10, hx348_11, hl348_11, hi348_11⟩ := at_T25 HR1.out x5_1 p348 q348
             have hw348_11 := hx348_11
             have hw348_10 := hx348_10
             have hw348_9 := hx348_9
             have hw348_8 := hx348_8
             have hw348_7 := hx348_7
             have hw348_6 := hx348_6
             have hw348_5 := hx348_5
             have hw348_4 := hx348_4
             have hw348_3 := hx348_3
             have hw348_2 := hx348_2
             have hw348_1 := hx348_1
             have hw348_0 := hx348_0
             cases e348
             replace hx348_0 := (HB.out.cell (World.block_lt_of_cell? w _ hx348_0)).trans hx348_0
             replace hx348_1 := (HB.out.cell (World.block_lt_of_cell? w _ hx348_1)).trans hx348_1
             replace hx348_2 := (HB.out.cell (World.block_lt_of_cell? w _ hx348_2)).trans hx348_2
             replace hx348_3 := (HB.out.cell (World.block_lt_of_cell? w _ hx348_3)).trans hx348_3
             replace hx348_4 := (HB.out.cell (World.block_lt_of_cell? w _ hx348_4)).trans hx348_4
             replace hx348_5 := (HB.out.cell (World.block_lt_of_cell? w _ hx348_5)).trans hx348_5
             replace hx348_6 := (HB.out.cell (World.block_lt_of_cell? w _ hx348_6)).trans hx348_6
             replace hx348_7 := (HB.out.cell (World.block_lt_of_cell? w _ hx348_7)).trans hx348_7
             replace hx348_8 := (HB.out.cell (World.block_lt_of_cell? w _ hx348_8)).trans hx348_8
             replace hx348_9 := (HB.out.cell (World.block_lt_of_cell? w _ hx348_9)).trans hx348_9
             replace hx348_10 := (HB.out.cell (World.block_lt_of_cell? w _ hx348_10)).trans hx348_10
             replace hx348_11 := (HB.out.cell (World.block_lt_of_cell? w _ hx348_11)).trans hx348_11
             have HR348_11 := Aside0.mk hi348_11
             have HC348_11 := Aside0.mk hl348_11
             clear hi348_11 hl348_11
             replace p348 := eq_true p348
             replace q348 := eq_true q348
             refine start_ (n := 10) (S := fun w' => w'.cell? (ad347.add ((x5_1).toNat * 12)) = some (.int .i64 ((rd_T25 l0 x5_1).f0)) ∧ w'.cell? ⟨(ad347.add ((x5_1).toNat * 12)).block, (ad347.add ((x5_1).toNat * 12)).off + 1, none⟩ = some (.int .i64 ((rd_T25 l0 x5_1).f1)) ∧ w'.cell? ⟨(ad347.add ((x5_1).toNat * 12)).block, (ad347.add ((x5_1).toNat * 12)).off + 2, none⟩ = some (.int .i64 ((rd_T25 l0 x5_1).f2)) ∧ w'.cell? ⟨(ad347.add ((x5_1).toNat * 12)).block, (ad347.add ((x5_1).toNat * 12)).off + 3, none⟩ = some (.int .i64 ((rd_T25 l0 x5_1).f3)) ∧ w'.cell? ⟨(ad347.add ((x5_1).toNat * 12)).block, (ad347.add ((x5_1).toNat * 12)).off + 4, none⟩ = some (.int .i64 ((rd_T25 l0 x5_1).f4)) ∧ w'.cell? ⟨(ad347.add ((x5_1).toNat * 12)).block, (ad347.add ((x5_1).toNat * 12)).off + 5, none⟩ = some (.int .i64 ((rd_T25 l0 x5_1).f5)) ∧ w'.cell? ⟨(ad347.add ((x5_1).toNat * 12)).block, (ad347.add ((x5_1).toNat * 12)).off + 6, none⟩ = some (.int .i64 ((rd_T25 l0 x5_1).f6)) ∧ w'.cell? ⟨(ad347.add ((x5_1).toNat * 12)).block, (ad347.add ((x5_1).toNat * 12)).off + 7, none⟩ = some (.int .i64 ((rd_T25 l0 x5_1).f7)) ∧ w'.cell? ⟨(ad347.add ((x5_1).toNat * 12)).block, (ad347.add ((x5_1).toNat * 12)).off + 8, none⟩ = some (.int .i64 ((rd_T25 l0 x5_1).f8)) ∧ w'.cell? ⟨(ad347.add ((x5_1).toNat * 12)).block, (ad347.add ((x5_1).toNat * 12)).off + 9, none⟩ = some (.int .i64 ((rd_T25 l0 x5_1).f9)) ∧ w'.cell? ⟨(ad347.add ((x5_1).toNat * 12)).block, (ad347.add ((x5_1).toNat * 12)).off + 10, none⟩ = some (.int .i64 ((rd_T25 l0 x5_1).f10)) ∧ w'.cell? ⟨(ad347.add ((x5_1).toNat * 12)).block, (ad347.add ((x5_1).toNat * 12)).off + 11, none⟩ = some (.slice A347_11 ((rd_T25 l0 x5_1).f11).length c347_11) ∧ w'.cell? (ad348.add ((x5_1).toNat * 12)) = some (.int .i64 ((rd_T25 l1 x5_1).f0)) ∧ w'.cell? ⟨(ad348.add ((x5_1).toNat * 12)).block, (ad348.add ((x5_1).toNat * 12)).off + 1, none⟩ = some (.int .i64 ((rd_T25 l1 x5_1).f1)) ∧ w'.cell? ⟨(ad348.add ((x5_1).toNat * 12)).block, (ad348.add ((x5_1).toNat * 12)).off + 2, none⟩ = some (.int .i64 ((rd_T25 l1 x5_1).f2)) ∧ w'.cell? ⟨(ad348.add ((x5_1).toNat * 12)).block, (ad348.add ((x5_1).toNat * 12)).off + 3, none⟩ = some (.int .i64 ((rd_T25 l1 x5_1).f3)) ∧ w'.cell? ⟨(ad348.add ((x5_1).toNat * 12)).block, (ad348.add ((x5_1).toNat * 12)).off + 4, none⟩ = some (.int .i64 ((rd_T25 l1 x5_1).f4)) ∧ w'.cell? ⟨(ad348.add ((x5_1).toNat * 12)).block, (ad348.add ((x5_1).toNat * 12)).off + 5, none⟩ = some (.int .i64 ((rd_T25 l1 x5_1).f5)) ∧ w'.cell? ⟨(ad348.add ((x5_1).toNat * 12)).block, (ad348.add ((x5_1).toNat * 12)).off + 6, none⟩ = some (.int .i64 ((rd_T25 l1 x5_1).f6)) ∧ w'.cell? ⟨(ad348.add ((x5_1).toNat * 12)).block, (ad348.add ((x5_1).toNat * 12)).off + 7, none⟩ = some (.int .i64 ((rd_T25 l1 x5_1).f7)) ∧ w'.cell? ⟨(ad348.add ((x5_1).toNat * 12)).block, (ad348.add ((x5_1).toNat * 12)).off + 8, none⟩ = some (.int .i64 ((rd_T25 l1 x5_1).f8)) ∧ w'.cell? ⟨(ad348.add ((x5_1).toNat * 12)).block, (ad348.add ((x5_1).toNat * 12)).off + 9, none⟩ = some (.int .i64 ((rd_T25 l1 x5_1).f9)) ∧ w'.cell? ⟨(ad348.add ((x5_1).toNat * 12)).block, (ad348.add ((x5_1).toNat * 12)).off + 10, none⟩ = some (.int .i64 ((rd_T25 l1 x5_1).f10)) ∧ w'.cell? ⟨(ad348.add ((x5_1).toNat * 12)).block, (ad348.add ((x5_1).toNat * 12)).off + 11, none⟩ = some (.slice A348_11 ((rd_T25 l1 x5_1).f11).length c348_11)) (ds := []) #[false, false, false, false, false, false, false, false, false, false] (by kernel_rfl) rfl rfl ⟨((HB.out.cell (World.block_lt_of_cell? w _ hw347_0)).trans hw347_0), ((HB.out.cell (World.block_lt_of_cell? w _ hw347_1)).trans hw347_1), ((HB.out.cell (World.block_lt_of_cell? w _ hw347_2)).trans hw347_2), ((HB.out.cell (World.block_lt_of_cell? w _ hw347_3)).trans hw347_3), ((HB.out.cell (World.block_lt_of_cell? w _ hw347_4)).trans hw347_4), ((HB.out.cell (World.block_lt_of_cell? w _ hw347_5)).trans hw347_5), ((HB.out.cell (World.block_lt_of_cell? w _ hw347_6)).trans hw347_6), ((HB.out.cell (World.block_lt_of_cell? w _ hw347_7)).trans hw347_7), ((HB.out.cell (World.block_lt_of_cell? w _ hw347_8)).trans hw347_8), ((HB.out.cell (World.block_lt_of_cell? w _ hw347_9)).trans hw347_9), ((HB.out.cell (World.block_lt_of_cell? w _ hw347_10)).trans hw347_10), ((HB.out.cell (World.block_lt_of_cell? w _ hw347_11)).trans hw347_11), ((HB.out.cell (World.block_lt_of_cell? w _ hw348_0)).trans hw348_0), ((HB.out.cell (World.block_lt_of_cell? w _ hw348_1)).trans hw348_1), ((HB.out.cell (World.block_lt_of_cell? w _ hw348_2)).trans hw348_2), ((HB.out.cell (World.block_lt_of_cell? w _ hw348_3)).trans hw348_3), ((HB.out.cell (World.block_lt_of_cell? w _ hw348_4)).trans hw348_4), ((HB.out.cell (World.block_lt_of_cell? w _ hw348_5)).trans hw348_5), ((HB.out.cell (World.block_lt_of_cell? w _ hw348_6)).trans hw348_6), ((HB.out.cell (World.block_lt_of_cell? w _ hw348_7)).trans hw348_7), ((HB.out.cell (World.block_lt_of_cell? w _ hw348_8)).trans hw348_8), ((HB.out.cell (World.block_lt_of_cell? w _ hw348_9)).trans hw348_9), ((HB.out.cell (World.block_lt_of_cell? w _ hw348_10)).trans hw348_10), ((HB.out.cell (World.block_lt_of_cell? w _ hw348_11)).trans hw348_11)⟩ (fun hHeld => ?_); refine with_tabW waybillplain_SameMsgs.tab6 waybillplain_SameMsgs.bits6 (fun HT_ HW_ => ?_)
             generalize wr.drew = w9 at HB HR347_11 HR348_11 hx347_0 hx347_1 hx347_10 hx347_11 hx347_2 hx347_3 hx347_4 hx347_5 hx347_6 hx347_7 hx347_8 hx347_9 hx348_0 hx348_1 hx348_10 hx348_11 hx348_2 hx348_3 hx348_4 hx348_5 hx348_6 hx348_7 hx348_8 hx348_9 hHeld ⊢
             refine pure_ (i := 0) (N := some 17) (v := ?_) (a' := ?_) #[true, false, false, false, false, false, false, false, false, false] rfl rfl (any_of HT_.out (by kernel_rfl)) (fun _ _ _ h => h) (Or.inl ⟨by rfl, ?_⟩) ?_ ?_
             rotate_left
             · intro w'
               go_simp
               with_reducible rfl
             rotate_left
             · simp only [Act.put, List.setIfInBounds_toArray, List.set_cons_zero, List.set_cons_succ, i64_w, i32_w]
               rfl
             refine pure_ (i := 1) (N := some 18) (v := ?_) (a' := ?_) #[true, true, false, false, false, false, false, false, false, false] rfl rfl (any_of HT_.out (by kernel_rfl)) (fun _ _ _ h => h) (Or.inl ⟨by rfl, ?_⟩) ?_ ?_
             rotate_left
             · intro w'
               go_simp
               with_reducible rfl
             rotate_left
             · simp only [Act.put, List.setIfInBounds_toArray, List.set_cons_zero, List.set_cons_succ, i64_w, i32_w]
               rfl
             refine pure_ (i := 2) (N := some 19) (v := ?_) (a' := ?_) #[true, true, true, false, false, false, false, false, false, false] rfl rfl (any_of HT_.out (by kernel_rfl)) (fun _ _ _ h => h) (Or.inl ⟨by rfl, ?_⟩) ?_ ?_
             rotate_left
             · intro w'
               go_simp
               with_reducible rfl
             rotate_left
             · simp only [Act.put, List.setIfInBounds_toArray, List.set_cons_zero, List.set_cons_succ, i64_w, i32_w]
               rfl
             refine pure_ (i := 4) (N := some 21) (v := ?_) (a' := ?_) #[true, true, true, false, true, false, false, false, false, false] rfl rfl (any_of HT_.out (by kernel_rfl)) (fun _ _ _ h => h) (Or.inl ⟨by rfl, ?_⟩) ?_ ?_
             rotate_left
             · intro w'
               go_simp
               with_reducible rfl
             rotate_left
             · simp only [Act.put, List.setIfInBounds_toArray, List.set_cons_zero, List.set_cons_succ, i64_w, i32_w]
               rfl
             refine pure_ (i := 5) (N := some 22) (v := ?_) (a' := ?_) #[true, true, true, false, true, true, false, false, false, false] rfl rfl (any_of HT_.out (by kernel_rfl)) (fun _ _ _ h => h) (Or.inl ⟨by rfl, ?_⟩) ?_ ?_
             rotate_left
             · intro w'
               go_simp
               with_reducible rfl
             rotate_left
             · simp only [Act.put, List.setIfInBounds_toArray, List.set_cons_zero, List.set_cons_succ, i64_w, i32_w]
               rfl
             refine pure_ (i := 6) (N := some 23) (v := ?_) (a' := ?_) #[true, true, true, false, true, true, true, false, false, false] rfl rfl (any_of HT_.out (by kernel_rfl)) (fun _ _ _ h => h) (Or.inl ⟨by rfl, ?_⟩) ?_ ?_
             rotate_left
             · intro w'
               go_simp
               with_reducible rfl
             rotate_left
             · simp only [Act.put, List.setIfInBounds_toArray, List.set_cons_zero, List.set_cons_succ, i64_w, i32_w]
               rfl
             refine take_ (i := 3) (N := some 20) (v := ?_) (a' := ?_) #[true, true, true, true, true, true, true, false, false, false] rfl rfl (take_ofW HT_.out HW_.out (by kernel_rfl)) (fun _ _ _ h => h) (Or.inl ⟨by rfl, ?_⟩) hHeld ?_ ?_
             rotate_left
             · rintro w' ⟨s0, s1, s2, s3, s4, s5, s6, s7, s8, s9, s10, s11, s12, s13, s14, s15, s16, s17, s18, s19, s20, s21, s22, s23⟩
               go_simp
               with_reducible rfl
             rotate_left
             · simp only [Act.put, List.setIfInBounds_toArray, List.set_cons_zero, List.set_cons_succ, i64_w, i32_w]
               rfl
             refine take_ (i := 7) (N := some 24) (v := ?_) (a' := ?_) #[true, true, true, true, true, true, true, true, false, false] rfl rfl (take_ofW HT_.out HW_.out (by kernel_rfl)) (fun _ _ _ h => h) (Or.inl ⟨by rfl, ?_⟩) hHeld ?_ ?_
             rotate_left
             · rintro w' ⟨s0, s1, s2, s3, s4, s5, s6, s7, s8, s9, s10, s11, s12, s13, s14, s15, s16, s17, s18, s19, s20, s21, s22, s23⟩
               go_simp
               with_reducible rfl
             rotate_left
             · simp only [Act.put, List.setIfInBounds_toArray, List.set_cons_zero, List.set_cons_succ, i64_w, i32_w]
               rfl
             refine one_ (i := 8) (N := some 25) #[true, true, true, true, true, true, true, true, true, false] rfl rfl (one_of HT_.out (by kernel_rfl)) (by decide) (fun K hK => ?_)
             refine goes_ Try.func12 (by kernel_rfl) rfl #[.agg #[.int .i64 ((rd_T25 l0 x5_1).f0), .int .i64 ((rd_T25 l0 x5_1).f1), .int .i64 ((rd_T25 l0 x5_1).f2), .int .i64 ((rd_T25 l0 x5_1).f3), .int .i64 ((rd_T25 l0 x5_1).f4), .int .i64 ((rd_T25 l0 x5_1).f5), .int .i64 ((rd_T25 l0 x5_1).f6), .int .i64 ((rd_T25 l0 x5_1).f7), .int .i64 ((rd_T25 l0 x5_1).f8), .int .i64 ((rd_T25 l0 x5_1).f9), .int .i64 ((rd_T25 l0 x5_1).f10), .slice A347_11 ((rd_T25 l0 x5_1).f11).length c347_11], .agg #[.int .i64 ((rd_T25 l1 x5_1).f0), .int .i64 ((rd_T25 l1 x5_1).f1), .int .i64 ((rd_T25 l1 x5_1).f2), .int .i64 ((rd_T25 l1 x5_1).f3), .int .i64 ((rd_T25 l1 x5_1).f4), .int .i64 ((rd_T25 l1 x5_1).f5), .int .i64 ((rd_T25 l1 x5_1).f6), .int .i64 ((rd_T25 l1 x5_1).f7), .int .i64 ((rd_T25 l1 x5_1).f8), .int .i64 ((rd_T25 l1 x5_1).f9), .int .i64 ((rd_T25 l1 x5_1).f10), .slice A348_11 ((rd_T25 l1 x5_1).f11).length c348_11]] (by rfl) rfl rfl (by (try simp only [List.map_toArray, List.map_cons, List.map_nil]); first | done | rfl | (simp only [List.length_drop, List.length_take]; rfl)) ?_
             with_reducible refine (waybillplain_SameMsg.calls ((rd_T25 l0 x5_1).f0) ((rd_T25 l0 x5_1).f1) ((rd_T25 l0 x5_1).f2) ((rd_T25 l0 x5_1).f3) ((rd_T25 l0 x5_1).f4) ((rd_T25 l0 x5_1).f5) ((rd_T25 l0 x5_1).f6) ((rd_T25 l0 x5_1).f7) ((rd_T25 l0 x5_1).f8) ((rd_T25 l0 x5_1).f9) ((rd_T25 l0 x5_1).f10) _ _ ((rd_T25 l0 x5_1).f11) ((rd_T25 l1 x5_1).f0) ((rd_T25 l1 x5_1).f1) ((rd_T25 l1 x5_1).f2) ((rd_T25 l1 x5_1).f3) ((rd_T25 l1 x5_1).f4) ((rd_T25 l1 x5_1).f5) ((rd_T25 l1 x5_1).f6) ((rd_T25 l1 x5_1).f7) ((rd_T25 l1 x5_1).f8) ((rd_T25 l1 x5_1).f9) ((rd_T25 l1 x5_1).f10) _ _ ((rd_T25 l1 x5_1).f11) true _ ?side1 ?side2 ?side3 ?side4 A7.out).mono ?_
             (case side1 => repeat (first | exact (Kd.C_below HR347_11.out HB.out) | (with_reducible refine Kd.C_alloc ?_ _) | (with_reducible refine Kd.C_drewN ?_ _) | (with_reducible refine Kd.C_drew ?_)))
             (case side2 => exact HC347_11.out)
             (case side3 => repeat (first | exact (Kd.C_below HR348_11.out HB.out) | (with_reducible refine Kd.C_alloc ?_ _) | (with_reducible refine Kd.C_drewN ?_ _) | (with_reducible refine Kd.C_drew ?_)))
             (case side4 => exact HC348_11.out)
             rintro e w10 ⟨rfl, hb⟩
             refine ⟨_, rfl, ?_⟩
             have n0_ := Aside0.mk (below_step (by repeat (first | (with_reducible first | exact HB.out | apply below_alloc | apply pw_below_drewN | apply below_drew1) | exact HB.out)) hb)
             clear HB
             have HB := n0_
             clear n0_
             (try clear hb)
             (try clear hb2)
             (try clear hk)
             (try clear hi)
             refine hK.out _ _ ⟨((HB.out.cell (World.block_lt_of_cell? w _ hw347_0)).trans hw347_0), ((HB.out.cell (World.block_lt_of_cell? w _ hw347_1)).trans hw347_1), ((HB.out.cell (World.block_lt_of_cell? w _ hw347_2)).trans hw347_2), ((HB.out.cell (World.block_lt_of_cell? w _ hw347_3)).trans hw347_3), ((HB.out.cell (World.block_lt_of_cell? w _ hw347_4)).trans hw347_4), ((HB.out.cell (World.block_lt_of_cell? w _ hw347_5)).trans hw347_5), ((HB.out.cell (World.block_lt_of_cell? w _ hw347_6)).trans hw347_6), ((HB.out.cell (World.block_lt_of_cell? w _ hw347_7)).trans hw347_7), ((HB.out.cell (World.block_lt_of_cell? w _ hw347_8)).trans hw347_8), ((HB.out.cell (World.block_lt_of_cell? w _ hw347_9)).trans hw347_9), ((HB.out.cell (World.block_lt_of_cell? w _ hw347_10)).trans hw347_10), ((HB.out.cell (World.block_lt_of_cell? w _ hw347_11)).trans hw347_11), ((HB.out.cell (World.block_lt_of_cell? w _ hw348_0)).trans hw348_0), ((HB.out.cell (World.block_lt_of_cell? w _ hw348_1)).trans hw348_1), ((HB.out.cell (World.block_lt_of_cell? w _ hw348_2)).trans hw348_2), ((HB.out.cell (World.block_lt_of_cell? w _ hw348_3)).trans hw348_3), ((HB.out.cell (World.block_lt_of_cell? w _ hw348_4)).trans hw348_4), ((HB.out.cell (World.block_lt_of_cell? w _ hw348_5)).trans hw348_5), ((HB.out.cell (World.block_lt_of_cell? w _ hw348_6)).trans hw348_6), ((HB.out.cell (World.block_lt_of_cell? w _ hw348_7)).trans hw348_7), ((HB.out.cell (World.block_lt_of_cell? w _ hw348_8)).trans hw348_8), ((HB.out.cell (World.block_lt_of_cell? w _ hw348_9)).trans hw348_9), ((HB.out.cell (World.block_lt_of_cell? w _ hw348_10)).trans hw348_10), ((HB.out.cell (World.block_lt_of_cell? w _ hw348_11)).trans hw348_11)⟩ (fun hHeld => ?_)
             clear hK K
             refine norm_ (a' := ?_) ?_ ?_
             rotate_left
             · show Act.put _ (some 25) _ = _
               simp only [Act.put, List.setIfInBounds_toArray, List.set_cons_zero, List.set_cons_succ, i64_w, i32_w]
               rfl
             refine pure_ (i := 9) (N := some 26) (v := ?_) (a' := ?_) #[true, true, true, true, true, true, true, true, true, true] rfl rfl (any_of HT_.out (by kernel_rfl)) (fun _ _ _ h => h) (Or.inl ⟨by rfl, ?_⟩) ?_ ?_
             rotate_left
             · intro w'
               go_simp
               with_reducible rfl
             rotate_left
             · simp only [Act.put, List.setIfInBounds_toArray, List.set_cons_zero, List.set_cons_succ, i64_w, i32_w]
               rfl
             refine done_ (done_of HT_.out (by kernel_rfl)) ?_
             try go_wp2
             go_roundg k1
             case measure => have := HK1.out; omega
             case rel => exact ⟨(wrap64 (x5_1 + 1)), (by first | rfl | (simp; done) | (simp [*]; done)), H', ⟨by have := HK1.out; omega⟩, ⟨by repeat (first | (with_reducible first | exact HB.out | apply below_alloc | apply pw_below_drewN | apply below_drew1) | exact HB.out)⟩⟩
           · replace c8 := Bool.eq_false_iff.mpr c8
             subst c8
             have H1 : (some false) = some r := by rw [if_neg (show ¬ (false = true) by decide)] at H; exact H
             clear H
             have H := H1
             clear H1
             obtain rfl := Option.some.inj H
             simp only [Option.some.injEq, Prod.mk.injEq] at H
             obtain ⟨rfl⟩ := H
             try go_wp2
             have n0_ := Aside0.mk (below_drew1 HB.out)
             clear HB
             have HB := n0_
             clear n0_
             have p347 : 0 ≤ (x5_1 : Int) := of_decide_eq_true (by assumption)
             have q347 : x5_1 < (l0.length : Int) := of_decide_eq_true (by assumption)
             obtain ⟨ad347, A347_11, c347_11, e347, hx347_0, hx347_1, hx347_2, hx347_3, hx347_4, hx347_5, hx347_6, hx347_7, hx347_8, hx347_9, hx347_10, hx347_11, hl347_11, hi347_11⟩ := at_T25 HR0.out x5_1 p347 q347
             have hw347_11 := hx347_11
             have hw347_10 := hx347_10
             have hw347_9 := hx347_9
             have hw347_8 := hx347_8
             have hw347_7 := hx347_7
             have hw347_6 := hx347_6
             have hw347_5 := hx347_5
             have hw347_4 := hx347_4
             have hw347_3 := hx347_3
             have hw347_2 := hx347_2
             have hw347_1 := hx347_1
             have hw347_0 := hx347_0
             cases e347
             replace hx347_0 := (HB.out.cell (World.block_lt_of_cell? w _ hx347_0)).trans hx347_0
             replace hx347_1 := (HB.out.cell (World.block_lt_of_cell? w _ hx347_1)).trans hx347_1
             replace hx347_2 := (HB.out.cell (World.block_lt_of_cell? w _ hx347_2)).trans hx347_2
             replace hx347_3 := (HB.out.cell (World.block_lt_of_cell? w _ hx347_3)).trans hx347_3
             replace hx347_4 := (HB.out.cell (World.block_lt_of_cell? w _ hx347_4)).trans hx347_4
             replace hx347_5 := (HB.out.cell (World.block_lt_of_cell? w _ hx347_5)).trans hx347_5
             replace hx347_6 := (HB.out.cell (World.block_lt_of_cell? w _ hx347_6)).trans hx347_6
             replace hx347_7 := (HB.out.cell (World.block_lt_of_cell? w _ hx347_7)).trans hx347_7
             replace hx347_8 := (HB.out.cell (World.block_lt_of_cell? w _ hx347_8)).trans hx347_8
             replace hx347_9 := (HB.out.cell (World.block_lt_of_cell? w _ hx347_9)).trans hx347_9
             replace hx347_10 := (HB.out.cell (World.block_lt_of_cell? w _ hx347_10)).trans hx347_10
             replace hx347_11 := (HB.out.cell (World.block_lt_of_cell? w _ hx347_11)).trans hx347_11
             have HR347_11 := Aside0.mk hi347_11
             have HC347_11 := Aside0.mk hl347_11
             clear hi347_11 hl347_11
             replace p347 := eq_true p347
             replace q347 := eq_true q347
             have p348 : 0 ≤ (x5_1 : Int) := of_decide_eq_true (by assumption)
             have q348 : x5_1 < (l1.length : Int) := of_decide_eq_true (by assumption)
             obtain ⟨ad348, A348_11, c348_11, e348, hx348_0, hx348_1, hx348_2, hx348_3, hx348_4, hx348_5, hx348_6, hx348_7, hx348_8, hx348_9, hx348_10, hx348_11, hl348_11, hi348_11⟩ := at_T25 HR1.out x5_1 p348 q348
             have hw348_11 := hx348_11
             have hw348_10 := hx348_10
             have hw348_9 := hx348_9
             have hw348_8 := hx348_8
             have hw348_7 := hx348_7
             have hw348_6 := hx348_6
             have hw348_5 := hx348_5
             have hw348_4 := hx348_4
             have hw348_3 := hx348_3
             have hw348_2 := hx348_2
             have hw348_1 := hx348_1
             have hw348_0 := hx348_0
             cases e348
             replace hx348_0 := (HB.out.cell (World.block_lt_of_cell? w _ hx348_0)).trans hx348_0
             replace hx348_1 := (HB.out.cell (World.block_lt_of_cell? w _ hx348_1)).trans hx348_1
             replace hx348_2 := (HB.out.cell (World.block_lt_of_cell? w _ hx348_2)).trans hx348_2
             replace hx348_3 := (HB.out.cell (World.block_lt_of_cell? w _ hx348_3)).trans hx348_3
             replace hx348_4 := (HB.out.cell (World.block_lt_of_cell? w _ hx348_4)).trans hx348_4
             replace hx348_5 := (HB.out.cell (World.block_lt_of_cell? w _ hx348_5)).trans hx348_5
             replace hx348_6 := (HB.out.cell (World.block_lt_of_cell? w _ hx348_6)).trans hx348_6
             replace hx348_7 := (HB.out.cell (World.block_lt_of_cell? w _ hx348_7)).trans hx348_7
             replace hx348_8 := (HB.out.cell (World.block_lt_of_cell? w _ hx348_8)).trans hx348_8
             replace hx348_9 := (HB.out.cell (World.block_lt_of_cell? w _ hx348_9)).trans hx348_9
             replace hx348_10 := (HB.out.cell (World.block_lt_of_cell? w _ hx348_10)).trans hx348_10
             replace hx348_11 := (HB.out.cell (World.block_lt_of_cell? w _ hx348_11)).trans hx348_11
             have HR348_11 := Aside0.mk hi348_11
             have HC348_11 := Aside0.mk hl348_11
             clear hi348_11 hl348_11
             replace p348 := eq_true p348
             replace q348 := eq_true q348
             refine start_ (n := 10) (S := fun w' => w'.cell? (ad347.add ((x5_1).toNat * 12)) = some (.int .i64 ((rd_T25 l0 x5_1).f0)) ∧ w'.cell? ⟨(ad347.add ((x5_1).toNat * 12)).block, (ad347.add ((x5_1).toNat * 12)).off + 1, none⟩ = some (.int .i64 ((rd_T25 l0 x5_1).f1)) ∧ w'.cell? ⟨(ad347.add ((x5_1).toNat * 12)).block, (ad347.add ((x5_1).toNat * 12)).off + 2, none⟩ = some (.int .i64 ((rd_T25 l0 x5_1).f2)) ∧ w'.cell? ⟨(ad347.add ((x5_1).toNat * 12)).block, (ad347.add ((x5_1).toNat * 12)).off + 3, none⟩ = some (.int .i64 ((rd_T25 l0 x5_1).f3)) ∧ w'.cell? ⟨(ad347.add ((x5_1).toNat * 12)).block, (ad347.add ((x5_1).toNat * 12)).off + 4, none⟩ = some (.int .i64 ((rd_T25 l0 x5_1).f4)) ∧ w'.cell? ⟨(ad347.add ((x5_1).toNat * 12)).block, (ad347.add ((x5_1).toNat * 12)).off + 5, none⟩ = some (.int .i64 ((rd_T25 l0 x5_1).f5)) ∧ w'.cell? ⟨(ad347.add ((x5_1).toNat * 12)).block, (ad347.add ((x5_1).toNat * 12)).off + 6, none⟩ = some (.int .i64 ((rd_T25 l0 x5_1).f6)) ∧ w'.cell? ⟨(ad347.add ((x5_1).toNat * 12)).block, (ad347.add ((x5_1).toNat * 12)).off + 7, none⟩ = some (.int .i64 ((rd_T25 l0 x5_1).f7)) ∧ w'.cell? ⟨(ad347.add ((x5_1).toNat * 12)).block, (ad347.add ((x5_1).toNat * 12)).off + 8, none⟩ = some (.int .i64 ((rd_T25 l0 x5_1).f8)) ∧ w'.cell? ⟨(ad347.add ((x5_1).toNat * 12)).block, (ad347.add ((x5_1).toNat * 12)).off + 9, none⟩ = some (.int .i64 ((rd_T25 l0 x5_1).f9)) ∧ w'.cell? ⟨(ad347.add ((x5_1).toNat * 12)).block, (ad347.add ((x5_1).toNat * 12)).off + 10, none⟩ = some (.int .i64 ((rd_T25 l0 x5_1).f10)) ∧ w'.cell? ⟨(ad347.add ((x5_1).toNat * 12)).block, (ad347.add ((x5_1).toNat * 12)).off + 11, none⟩ = some (.slice A347_11 ((rd_T25 l0 x5_1).f11).length c347_11) ∧ w'.cell? (ad348.add ((x5_1).toNat * 12)) = some (.int .i64 ((rd_T25 l1 x5_1).f0)) ∧ w'.cell? ⟨(ad348.add ((x5_1).toNat * 12)).block, (ad348.add ((x5_1).toNat * 12)).off + 1, none⟩ = some (.int .i64 ((rd_T25 l1 x5_1).f1)) ∧ w'.cell? ⟨(ad348.add ((x5_1).toNat * 12)).block, (ad348.add ((x5_1).toNat * 12)).off + 2, none⟩ = some (.int .i64 ((rd_T25 l1 x5_1).f2)) ∧ w'.cell? ⟨(ad348.add ((x5_1).toNat * 12)).block, (ad348.add ((x5_1).toNat * 12)).off + 3, none⟩ = some (.int .i64 ((rd_T25 l1 x5_1).f3)) ∧ w'.cell? ⟨(ad348.add ((x5_1).toNat * 12)).block, (ad348.add ((x5_1).toNat * 12)).off + 4, none⟩ = some (.int .i64 ((rd_T25 l1 x5_1).f4)) ∧ w'.cell? ⟨(ad348.add ((x5_1).toNat * 12)).block, (ad348.add ((x5_1).toNat * 12)).off + 5, none⟩ = some (.int .i64 ((rd_T25 l1 x5_1).f5)) ∧ w'.cell? ⟨(ad348.add ((x5_1).toNat * 12)).block, (ad348.add ((x5_1).toNat * 12)).off + 6, none⟩ = some (.int .i64 ((rd_T25 l1 x5_1).f6)) ∧ w'.cell? ⟨(ad348.add ((x5_1).toNat * 12)).block, (ad348.add ((x5_1).toNat * 12)).off + 7, none⟩ = some (.int .i64 ((rd_T25 l1 x5_1).f7)) ∧ w'.cell? ⟨(ad348.add ((x5_1).toNat * 12)).block, (ad348.add ((x5_1).toNat * 12)).off + 8, none⟩ = some (.int .i64 ((rd_T25 l1 x5_1).f8)) ∧ w'.cell? ⟨(ad348.add ((x5_1).toNat * 12)).block, (ad348.add ((x5_1).toNat * 12)).off + 9, none⟩ = some (.int .i64 ((rd_T25 l1 x5_1).f9)) ∧ w'.cell? ⟨(ad348.add ((x5_1).toNat * 12)).block, (ad348.add ((x5_1).toNat * 12)).off + 10, none⟩ = some (.int .i64 ((rd_T25 l1 x5_1).f10)) ∧ w'.cell? ⟨(ad348.add ((x5_1).toNat * 12)).block, (ad348.add ((x5_1).toNat * 12)).off + 11, none⟩ = some (.slice A348_11 ((rd_T25 l1 x5_1).f11).length c348_11)) (ds := []) #[false, false, false, false, false, false, false, false, false, false] (by kernel_rfl) rfl rfl ⟨((HB.out.cell (World.block_lt_of_cell? w _ hw347_0)).trans hw347_0), ((HB.out.cell (World.block_lt_of_cell? w _ hw347_1)).trans hw347_1), ((HB.out.cell (World.block_lt_of_cell? w _ hw347_2)).trans hw347_2), ((HB.out.cell (World.block_lt_of_cell? w _ hw347_3)).trans hw347_3), ((HB.out.cell (World.block_lt_of_cell? w _ hw347_4)).trans hw347_4), ((HB.out.cell (World.block_lt_of_cell? w _ hw347_5)).trans hw347_5), ((HB.out.cell (World.block_lt_of_cell? w _ hw347_6)).trans hw347_6), ((HB.out.cell (World.block_lt_of_cell? w _ hw347_7)).trans hw347_7), ((HB.out.cell (World.block_lt_of_cell? w _ hw347_8)).trans hw347_8), ((HB.out.cell (World.block_lt_of_cell? w _ hw347_9)).trans hw347_9), ((HB.out.cell (World.block_lt_of_cell? w _ hw347_10)).trans hw347_10), ((HB.out.cell (World.block_lt_of_cell? w _ hw347_11)).trans hw347_11), ((HB.out.cell (World.block_lt_of_cell? w _ hw348_0)).trans hw348_0), ((HB.out.cell (World.block_lt_of_cell? w _ hw348_1)).trans hw348_1), ((HB.out.cell (World.block_lt_of_cell? w _ hw348_2)).trans hw348_2), ((HB.out.cell (World.block_lt_of_cell? w _ hw348_3)).trans hw348_3), ((HB.out.cell (World.block_lt_of_cell? w _ hw348_4)).trans hw348_4), ((HB.out.cell (World.block_lt_of_cell? w _ hw348_5)).trans hw348_5), ((HB.out.cell (World.block_lt_of_cell? w _ hw348_6)).trans hw348_6), ((HB.out.cell (World.block_lt_of_cell? w _ hw348_7)).trans hw348_7), ((HB.out.cell (World.block_lt_of_cell? w _ hw348_8)).trans hw348_8), ((HB.out.cell (World.block_lt_of_cell? w _ hw348_9)).trans hw348_9), ((HB.out.cell (World.block_lt_of_cell? w _ hw348_10)).trans hw348_10), ((HB.out.cell (World.block_lt_of_cell? w _ hw348_11)).trans hw348_11)⟩ (fun hHeld => ?_); refine with_tabW waybillplain_SameMsgs.tab6 waybillplain_SameMsgs.bits6 (fun HT_ HW_ => ?_)
             generalize wr.drew = w11 at HB HR347_11 HR348_11 hx347_0 hx347_1 hx347_10 hx347_11 hx347_2 hx347_3 hx347_4 hx347_5 hx347_6 hx347_7 hx347_8 hx347_9 hx348_0 hx348_1 hx348_10 hx348_11 hx348_2 hx348_3 hx348_4 hx348_5 hx348_6 hx348_7 hx348_8 hx348_9 hHeld ⊢
             refine pure_ (i := 0) (N := some 17) (v := ?_) (a' := ?_) #[true, false, false, false, false, false, false, false, false, false] rfl rfl (any_of HT_.out (by kernel_rfl)) (fun _ _ _ h => h) (Or.inl ⟨by rfl, ?_⟩) ?_ ?_
             rotate_left
             · intro w'
               go_simp
               with_reducible rfl
             rotate_left
             · simp only [Act.put, List.setIfInBounds_toArray, List.set_cons_zero, List.set_cons_succ, i64_w, i32_w]
               rfl
             refine pure_ (i := 1) (N := some 18) (v := ?_) (a' := ?_) #[true, true, false, false, false, false, false, false, false, false] rfl rfl (any_of HT_.out (by kernel_rfl)) (fun _ _ _ h => h) (Or.inl ⟨by rfl, ?_⟩) ?_ ?_
             rotate_left
             · intro w'
               go_simp
               with_reducible rfl
             rotate_left
             · simp only [Act.put, List.setIfInBounds_toArray, List.set_cons_zero, List.set_cons_succ, i64_w, i32_w]
               rfl
             refine pure_ (i := 2) (N := some 19) (v := ?_) (a' := ?_) #[true, true, true, false, false, false, false, false, false, false] rfl rfl (any_of HT_.out (by kernel_rfl)) (fun _ _ _ h => h) (Or.inl ⟨by rfl, ?_⟩) ?_ ?_
             rotate_left
             · intro w'
               go_simp
               with_reducible rfl
             rotate_left
             · simp only [Act.put, List.setIfInBounds_toArray, List.set_cons_zero, List.set_cons_succ, i64_w, i32_w]
               rfl
             refine pure_ (i := 4) (N := some 21) (v := ?_) (a' := ?_) #[true, true, true, false, true, false, false, false, false, false] rfl rfl (any_of HT_.out (by kernel_rfl)) (fun _ _ _ h => h) (Or.inl ⟨by rfl, ?_⟩) ?_ ?_
             rotate_left
             · intro w'
               go_simp
               with_reducible rfl
             rotate_left
             · simp only [Act.put, List.setIfInBounds_toArray, List.set_cons_zero, List.set_cons_succ, i64_w, i32_w]
               rfl
             refine pure_ (i := 5) (N := some 22) (v := ?_) (a' := ?_) #[true, true, true, false, true, true, false, false, false, false] rfl rfl (any_of HT_.out (by kernel_rfl)) (fun _ _ _ h => h) (Or.inl ⟨by rfl, ?_⟩) ?_ ?_
             rotate_left
             · intro w'
               go_simp
               with_reducible rfl
             rotate_left
             · simp only [Act.put, List.setIfInBounds_toArray, List.set_cons_zero, List.set_cons_succ, i64_w, i32_w]
               rfl
             refine pure_ (i := 6) (N := some 23) (v := ?_) (a' := ?_) #[true, true, true, false, true, true, true, false, false, false] rfl rfl (any_of HT_.out (by kernel_rfl)) (fun _ _ _ h => h) (Or.inl ⟨by rfl, ?_⟩) ?_ ?_
             rotate_left
             · intro w'
               go_simp
               with_reducible rfl
             rotate_left
             · simp only [Act.put, List.setIfInBounds_toArray, List.set_cons_zero, List.set_cons_succ, i64_w, i32_w]
               rfl
             refine take_ (i := 3) (N := some 20) (v := ?_) (a' := ?_) #[true, true, true, true, true, true, true, false, false, false] rfl rfl (take_ofW HT_.out HW_.out (by kernel_rfl)) (fun _ _ _ h => h) (Or.inl ⟨by rfl, ?_⟩) hHeld ?_ ?_
             rotate_left
             · rintro w' ⟨s0, s1, s2, s3, s4, s5, s6, s7, s8, s9, s10, s11, s12, s13, s14, s15, s16, s17, s18, s19, s20, s21, s22, s23⟩
               go_simp
               with_reducible rfl
             rotate_left
             · simp only [Act.put, List.setIfInBounds_toArray, List.set_cons_zero, List.set_cons_succ, i64_w, i32_w]
               rfl
             refine take_ (i := 7) (N := some 24) (v := ?_) (a' := ?_) #[true, true, true, true, true, true, true, true, false, false] rfl rfl (take_ofW HT_.out HW_.out (by kernel_rfl)) (fun _ _ _ h => h) (Or.inl ⟨by rfl, ?_⟩) hHeld ?_ ?_
             rotate_left
             · rintro w' ⟨s0, s1, s2, s3, s4, s5, s6, s7, s8, s9, s10, s11, s12, s13, s14, s15, s16, s17, s18, s19, s20, s21, s22, s23⟩
               go_simp
               with_reducible rfl
             rotate_left
             · simp only [Act.put, List.setIfInBounds_toArray, List.set_cons_zero, List.set_cons_succ, i64_w, i32_w]
               rfl
             refine one_ (i := 8) (N := some 25) #[true, true, true, true, true, true, true, true, true, false] rfl rfl (one_of HT_.out (by kernel_rfl)) (by decide) (fun K hK => ?_)
             refine goes_ Try.func12 (by kernel_rfl) rfl #[.agg #[.int .i64 ((rd_T25 l0 x5_1).f0), .int .i64 ((rd_T25 l0 x5_1).f1), .int .i64 ((rd_T25 l0 x5_1).f2), .int .i64 ((rd_T25 l0 x5_1).f3), .int .i64 ((rd_T25 l0 x5_1).f4), .int .i64 ((rd_T25 l0 x5_1).f5), .int .i64 ((rd_T25 l0 x5_1).f6), .int .i64 ((rd_T25 l0 x5_1).f7), .int .i64 ((rd_T25 l0 x5_1).f8), .int .i64 ((rd_T25 l0 x5_1).f9), .int .i64 ((rd_T25 l0 x5_1).f10), .slice A347_11 ((rd_T25 l0 x5_1).f11).length c347_11], .agg #[.int .i64 ((rd_T25 l1 x5_1).f0), .int .i64 ((rd_T25 l1 x5_1).f1), .int .i64 ((rd_T25 l1 x5_1).f2), .int .i64 ((rd_T25 l1 x5_1).f3), .int .i64 ((rd_T25 l1 x5_1).f4), .int .i64 ((rd_T25 l1 x5_1).f5), .int .i64 ((rd_T25 l1 x5_1).f6), .int .i64 ((rd_T25 l1 x5_1).f7), .int .i64 ((rd_T25 l1 x5_1).f8), .int .i64 ((rd_T25 l1 x5_1).f9), .int .i64 ((rd_T25 l1 x5_1).f10), .slice A348_11 ((rd_T25 l1 x5_1).f11).length c348_11]] (by rfl) rfl rfl (by (try simp only [List.map_toArray, List.map_cons, List.map_nil]); first | done | rfl | (simp only [List.length_drop, List.length_take]; rfl)) ?_
             with_reducible refine (waybillplain_SameMsg.calls ((rd_T25 l0 x5_1).f0) ((rd_T25 l0 x5_1).f1) ((rd_T25 l0 x5_1).f2) ((rd_T25 l0 x5_1).f3) ((rd_T25 l0 x5_1).f4) ((rd_T25 l0 x5_1).f5) ((rd_T25 l0 x5_1).f6) ((rd_T25 l0 x5_1).f7) ((rd_T25 l0 x5_1).f8) ((rd_T25 l0 x5_1).f9) ((rd_T25 l0 x5_1).f10) _ _ ((rd_T25 l0 x5_1).f11) ((rd_T25 l1 x5_1).f0) ((rd_T25 l1 x5_1).f1) ((rd_T25 l1 x5_1).f2) ((rd_T25 l1 x5_1).f3) ((rd_T25 l1 x5_1).f4) ((rd_T25 l1 x5_1).f5) ((rd_T25 l1 x5_1).f6) ((rd_T25 l1 x5_1).f7) ((rd_T25 l1 x5_1).f8) ((rd_T25 l1 x5_1).f9) ((rd_T25 l1 x5_1).f10) _ _ ((rd_T25 l1 x5_1).f11) false _ ?side1 ?side2 ?side3 ?side4 A7.out).mono ?_
             (case side1 => repeat (first | exact (Kd.C_below HR347_11.out HB.out) | (with_reducible refine Kd.C_alloc ?_ _) | (with_reducible refine Kd.C_drewN ?_ _) | (with_reducible refine Kd.C_drew ?_)))
             (case side2 => exact HC347_11.out)
             (case side3 => repeat (first | exact (Kd.C_below HR348_11.out HB.out) | (with_reducible refine Kd.C_alloc ?_ _) | (with_reducible refine Kd.C_drewN ?_ _) | (with_reducible refine Kd.C_drew ?_)))
             (case side4 => exact HC348_11.out)
             rintro e w12 ⟨rfl, hb⟩
             refine ⟨_, rfl, ?_⟩
             have n0_ := Aside0.mk (below_step (by repeat (first | (with_reducible first | exact HB.out | apply below_alloc | apply pw_below_drewN | apply below_drew1) | exact HB.out)) hb)
             clear HB
             have HB := n0_
             clear n0_
             (try clear hb)
             (try clear hb2)
             (try clear hk)
             (try clear hi)
             refine hK.out _ _ ⟨((HB.out.cell (World.block_lt_of_cell? w _ hw347_0)).trans hw347_0), ((HB.out.cell (World.block_lt_of_cell? w _ hw347_1)).trans hw347_1), ((HB.out.cell (World.block_lt_of_cell? w _ hw347_2)).trans hw347_2), ((HB.out.cell (World.block_lt_of_cell? w _ hw347_3)).trans hw347_3), ((HB.out.cell (World.block_lt_of_cell? w _ hw347_4)).trans hw347_4), ((HB.out.cell (World.block_lt_of_cell? w _ hw347_5)).trans hw347_5), ((HB.out.cell (World.block_lt_of_cell? w _ hw347_6)).trans hw347_6), ((HB.out.cell (World.block_lt_of_cell? w _ hw347_7)).trans hw347_7), ((HB.out.cell (World.block_lt_of_cell? w _ hw347_8)).trans hw347_8), ((HB.out.cell (World.block_lt_of_cell? w _ hw347_9)).trans hw347_9), ((HB.out.cell (World.block_lt_of_cell? w _ hw347_10)).trans hw347_10), ((HB.out.cell (World.block_lt_of_cell? w _ hw347_11)).trans hw347_11), ((HB.out.cell (World.block_lt_of_cell? w _ hw348_0)).trans hw348_0), ((HB.out.cell (World.block_lt_of_cell? w _ hw348_1)).trans hw348_1), ((HB.out.cell (World.block_lt_of_cell? w _ hw348_2)).trans hw348_2), ((HB.out.cell (World.block_lt_of_cell? w _ hw348_3)).trans hw348_3), ((HB.out.cell (World.block_lt_of_cell? w _ hw348_4)).trans hw348_4), ((HB.out.cell (World.block_lt_of_cell? w _ hw348_5)).trans hw348_5), ((HB.out.cell (World.block_lt_of_cell? w _ hw348_6)).trans hw348_6), ((HB.out.cell (World.block_lt_of_cell? w _ hw348_7)).trans hw348_7), ((HB.out.cell (World.block_lt_of_cell? w _ hw348_8)).trans hw348_8), ((HB.out.cell (World.block_lt_of_cell? w _ hw348_9)).trans hw348_9), ((HB.out.cell (World.block_lt_of_cell? w _ hw348_10)).trans hw348_10), ((HB.out.cell (World.block_lt_of_cell? w _ hw348_11)).trans hw348_11)⟩ (fun hHeld => ?_)
             clear hK K
             refine norm_ (a' := ?_) ?_ ?_
             rotate_left
             · show Act.put _ (some 25) _ = _
               simp only [Act.put, List.setIfInBounds_toArray, List.set_cons_zero, List.set_cons_succ, i64_w, i32_w]
               rfl
             refine pure_ (i := 9) (N := some 26) (v := ?_) (a' := ?_) #[true, true, true, true, true, true, true, true, true, true] rfl rfl (any_of HT_.out (by kernel_rfl)) (fun _ _ _ h => h) (Or.inl ⟨by rfl, ?_⟩) ?_ ?_
             rotate_left
             · intro w'
               go_simp
               with_reducible rfl
             rotate_left
             · simp only [Act.put, List.setIfInBounds_toArray, List.set_cons_zero, List.set_cons_succ, i64_w, i32_w]
               rfl
             refine done_ (done_of HT_.out (by kernel_rfl)) ?_
             try go_wp2
             go_ret
             exact ⟨by first | rfl | (simp [errW_none, errW_some] <;> rfl) | (simp [*, errW_none, errW_some] <;> rfl), by repeat (first | (with_reducible first | exact HB.out | apply below_alloc | apply pw_below_drewN | apply below_drew1) | exact HB.out)⟩
         · rw [if_neg c6] at H
           exact absurd H (by simp)
       · rw [if_neg c5] at H
         exact absurd H (by simp)
     · rw [if_neg c4] at H
       have c4b0 : decide (x5_1 < (l0.length : Int)) = false := decide_eq_false c4
       clear c4
       obtain rfl := Option.some.inj H
       simp only [Option.some.injEq, Prod.mk.injEq] at H
       obtain ⟨rfl⟩ := H
       go_wp2
       go_ret
       exact ⟨by first | rfl | (simp [errW_none, errW_some] <;> rfl) | (simp [*, errW_none, errW_some] <;> rfl), by repeat (first | (with_reducible first | exact HB.out | apply below_alloc | apply pw_below_drewN | apply below_drew1) | exact HB.out)⟩
 · rw [if_neg c3] at H
   have c3b0 : ((l0.length : Int) == (l1.length : Int)) = false := beq_eq_false_iff_ne.mpr c3
   have c3b1 : ((l0.length : Int) != (l1.length : Int)) = true := bne_iff_ne.mpr c3
   have c3b2 : (l0.length == l1.length) = false := by first | simpa using c3 | (simp at c3 ⊢; omega)
   obtain rfl := Option.some.inj H
   simp only [Option.some.injEq, Prod.mk.injEq] at H
   obtain ⟨rfl⟩ := H
   go_enter Try.func22, Try.ntmps22
   go_wp2
   go_ret
   exact ⟨by first | rfl | (simp [errW_none, errW_some] <;> rfl) | (simp [*, errW_none, errW_some] <;> rfl), by repeat (first | (with_reducible first | exact HB.out | apply below_alloc | apply pw_below_drewN | apply below_drew1) | exact HB.out)⟩
end Go.Proofs.Ytkddlhcpplkpbaa.G
end
section
namespace Go.Proofs.Ytkddlhcpplkpbaa.G
open WB Go.RowKit Go.Proofs.YtkddlhcpplkpbaaW.PrintWords Go.Proofs.YtkddlhcpplkpbaaW.PrintLast Go.Proofs.YtkddlhcpplkpbaaW.PrintMore
attribute [local go_sem] max2_int min2_int max_two min_two max_three min_three max_four min_four   -- for this text's walks alone
mutual
def waybillref02_run.l0 : Nat → Int → List Int → Int → Option (Int)
 | 0, _, _, _ => none
 | k + 1, x0, x1, x5 => if x5 < (x1.length : Int) then (waybillref02_run.l1 k x0 x1 x5 0) else (some x0)
def waybillref02_run.l1 : Nat → Int → List Int → Int → Int → Option (Int)
 | 0, _, _, _, _ => none
 | k + 1, x0, x1, x5, x6 => if x6 < 8 then (if 0 ≤ x5 then (if x5 < (x1.length : Int) then (if 0 ≤ x6 then (if (Go.bits .and .u32 x0 1) = (Go.bits .and .u32 ((shr .u8 (rd x1 x5) x6) % 4294967296) 1) then (waybillref02_run.l1 k (x0 / 2) x1 x5 (wrap64 (x6 + 1))) else (waybillref02_run.l1 k (Go.bits .xor .u32 (x0 / 2) 3988292384) x1 x5 (wrap64 (x6 + 1)))) else (none)) else (none)) else (none)) else (waybillref02_run.l0 k x0 x1 (wrap64 (x5 + 1)))
end
def waybillref02_run.f (k : Nat) (a0 : Int) (l1 : List Int) : Option (Int) := waybillref02_run.l0 k a0 l1 0
set_option maxHeartbeats 8000000 in
set_option maxRecDepth 100000 in
theorem waybillref02_run.calls (k : Nat) (a0 : Int) (A1 : Option Addr) (c1 : Nat) (l1 : List Int) (r : Int) (w : World) (hr1 : Kd.C (Kd.int .u8) w A1 l1.length l1) (hc1 : l1.length ≤ c1) (h : waybillref02_run.f k a0 l1 = some r) :
  Calls Try.prog 71 #[.int .u32 a0, .slice A1 l1.length c1] w fun e w' => e = .returned (.int .u32 r) ∧ Drawn0 w w' := by
 have HR1 := Aside0.mk hr1
 have HC1 := Aside0.mk hc1
 clear hr1 hc1
 have H : (waybillref02_run.l0 k a0 l1 0) = some r := h
 clear h
 have H' := Aside0.mk H
 clear H
 have hsg_u32 : Go.IntKind.u32.signed = false := rfl
 have hmx_u32 : Go.IntKind.u32.max = 4294967295 := rfl
 go_enter Try.func71, Try.ntmps71
 go_wp2
 go_loopg [0, 5] k (fun kq v0 v5 w' => ∃ (x0_1 : Int) (x5_1 : Int), v0 = .int .u32 x0_1 ∧ v5 = .int .i64 x5_1 ∧ Aside0 (waybillref02_run.l0 kq x0_1 l1 x5_1 = some r) ∧ Aside0 (kq ≤ k) ∧ Drawn0 w w')
 case atStart => exact ⟨(a0), (0), (by first | rfl | (simp; done) | (simp [*]; done)), (by first | rfl | (simp; done) | (simp [*]; done)), H', ⟨Nat.le_refl _⟩, by repeat (first | exact Drawn0.refl _ | apply Drawn0.step)⟩
 case round =>
  clear H'
  try clear c1
  try clear p2
  obtain ⟨x0_1, x5_1, rfl, rfl, HA, HK1, ⟨m1, rfl⟩⟩ := hrel
  cases gk with
  | zero => exact absurd HA.out (by simp [waybillref02_run.l0])
  | succ k1 =>
   have H := HA.out
   clear HA
   simp only [waybillref02_run.l0] at H
   by_cases c3 : x5_1 < (l1.length : Int)
   · rw [if_pos c3] at H
     have c3b0 : decide (x5_1 < (l1.length : Int)) = true := decide_eq_true c3
     clear c3
     have H' := Aside0.mk H
     clear H
     go_wp2
     go_loopg [0, 6] k1 (fun kq v0 v6 w' => ∃ (x0_2 : Int) (x6_2 : Int), v0 = .int .u32 x0_2 ∧ v6 = .int .i64 x6_2 ∧ Aside0 (waybillref02_run.l1 kq x0_2 l1 x5_1 x6_2 = some r) ∧ Aside0 (kq ≤ k1) ∧ Drawn0 w w')
     case atStart => exact ⟨(x0_1), (0), (by first | rfl | (simp; done) | (simp [*]; done)), (by first | rfl | (simp; done) | (simp [*]; done)), H', ⟨Nat.le_refl _⟩, by repeat (first | exact Drawn0.refl _ | apply Drawn0.step)⟩
     case round =>
      clear H'
      try clear c1
      try clear p2
      try clear c3
      try clear c3b0
      try clear p2
      obtain ⟨x0_2, x6_2, rfl, rfl, HA, HK2, ⟨m2, rfl⟩⟩ := hrel
      cases gk with
      | zero => exact absurd HA.out (by simp [waybillref02_run.l1])
      | succ k2 =>
       have H := HA.out
       clear HA
       simp only [waybillref02_run.l1] at H
       by_cases c4 : x6_2 < 8
       · rw [if_pos c4] at H
         have c4b0 : decide (x6_2 < 8) = true := decide_eq_true c4
         clear c4
         by_cases c5 : 0 ≤ x5_1
         · rw [if_pos c5] at H
           have c5b0 : decide (0 ≤ x5_1) = true := decide_eq_true c5
           clear c5
           by_cases c6 : x5_1 < (l1.length : Int)
           · rw [if_pos c6] at H
             have c6b0 : decide (x5_1 < (l1.length : Int)) = true := decide_eq_true c6
             clear c6
             by_cases c7 : 0 ≤ x6_2
             · rw [if_pos c7] at H
               have c7b0 := eq_true c7
               have c7b1 : decide (0 ≤ x6_2) = true := decide_eq_true c7
               clear c7
               obtain ⟨ji8, hji8⟩ : ∃ j_ : Int, (shr .u8 (rd l1 x5_1) x6_2) = j_ := ⟨_, rfl⟩
               replace H : (if (Go.bits .and .u32 x0_2 1) = (Go.bits .and .u32 ((ji8) % 4294967296) 1) then (waybillref02_run.l1 k2 (x0_2 / 2) l1 x5_1 (wrap64 (x6_2 + 1))) else (waybillref02_run.l1 k2 (Go.bits .xor .u32 (x0_2 / 2) 3988292384) l1 x5_1 (wrap64 (x6_2 + 1)))) = some r := by first | (rw [hji8] at H; exact H) | (simp only [hji8] at H ⊢; exact H)
               have hji8_ : ((rd l1 x5_1) / 2 ^ min x6_2.toNat 8) = ji8 := hji8
               have hji8z : x6_2 ≤ 8 → ((rd l1 x5_1) / 2 ^ x6_2.toNat) = ji8 := shr_small hji8
               by_cases c9 : (Go.bits .and .u32 x0_2 1) = (Go.bits .and .u32 ((ji8) % 4294967296) 1)
               · rw [if_pos c9] at H
                 have c9b0 : ((Go.bits .and .u32 x0_2 1) == (Go.bits .and .u32 ((ji8) % 4294967296) 1)) = true := beq_iff_eq.mpr c9
                 have c9b1 : ((Go.bits .and .u32 x0_2 1) != (Go.bits .and .u32 ((ji8) % 4294967296) 1)) = false := bne_eq_false_iff_eq.mpr c9
                 clear c9
                 have H' := Aside0.mk H
                 clear H
                 have p387 : 0 ≤ (x5_1 : Int) := of_decide_eq_true (by assumption)
                 have q387 : x5_1 < (l1.length : Int) := of_decide_eq_true (by assumption)
                 obtain ⟨ad387, e387, hx387_0⟩ := Kd.at_int HR1.out x5_1 p387 q387
                 cases e387
                 replace p387 := eq_true p387
                 replace q387 := eq_true q387
                 go_wp2
                 go_roundg k2
                 case measure => have := HK1.out; have := HK2.out; omega
                 case rel => exact ⟨(x0_2 / 2), (wrap64 (x6_2 + 1)), (by first | rfl | (simp; done) | (simp [*]; done)), (by first | rfl | (simp; done) | (simp [*]; done)), H', ⟨by have := HK1.out; have := HK2.out; omega⟩, by repeat (first | exact Drawn0.refl _ | apply Drawn0.step)⟩
               · rw [if_neg c9] at H
                 have c9b0 : ((Go.bits .and .u32 x0_2 1) == (Go.bits .and .u32 ((ji8) % 4294967296) 1)) = false := beq_eq_false_iff_ne.mpr c9
                 have c9b1 : ((Go.bits .and .u32 x0_2 1) != (Go.bits .and .u32 ((ji8) % 4294967296) 1)) = true := bne_iff_ne.mpr c9
                 have H' := Aside0.mk H
                 clear H
                 have p387 : 0 ≤ (x5_1 : Int) := of_decide_eq_true (by assumption)
                 have q387 : x5_1 < (l1.length : Int) := of_decide_eq_true (by assumption)
                 obtain ⟨ad387, e387, hx387_0⟩ := Kd.at_int HR1.out x5_1 p387 q387
                 cases e387
                 replace p387 := eq_true p387
                 replace q387 := eq_true q387
                 go_wp2
                 go_roundg k2
                 case measure => have := HK1.out; have := HK2.out; omega
                 case rel => exact ⟨(Go.bits .xor .u32 (x0_2 / 2) 3988292384), (wrap64 (x6_2 + 1)), (by first | rfl | (simp; done) | (simp [*]; done)), (by first | rfl | (simp; done) | (simp [*]; done)), H', ⟨by have := HK1.out; have := HK2.out; omega⟩, by repeat (first | exact Drawn0.refl _ | apply Drawn0.step)⟩
             · rw [if_neg c7] at H
               exact absurd H (by simp)
           · rw [if_neg c6] at H
             exact absurd H (by simp)
         · rw [if_neg c5] at H
           exact absurd H (by simp)
       · rw [if_neg c4] at H
         have c4b0 : decide (x6_2 < 8) = false := decide_eq_false c4
         clear c4
         have H' := Aside0.mk H
         clear H
         go_wp2
         go_roundg k2
         case measure => have := HK1.out; have := HK2.out; omega
         case rel => exact ⟨(x0_2), (wrap64 (x5_1 + 1)), (by first | rfl | (simp; done) | (simp [*]; done)), (by first | rfl | (simp; done) | (simp [*]; done)), H', ⟨by have := HK1.out; have := HK2.out; omega⟩, by repeat (first | exact Drawn0.refl _ | apply Drawn0.step)⟩
   · rw [if_neg c3] at H
     have c3b0 : decide (x5_1 < (l1.length : Int)) = false := decide_eq_false c3
     clear c3
     obtain rfl := Option.some.inj H
     simp only [Option.some.injEq, Prod.mk.injEq] at H
     obtain ⟨rfl⟩ := H
     go_wp2
     go_ret
     exact ⟨by first | rfl | (simp; done) | (simp [*]; done), by repeat (first | exact Drawn0.refl _ | apply Drawn0.step)⟩
end Go.Proofs.Ytkddlhcpplkpbaa.G
end
