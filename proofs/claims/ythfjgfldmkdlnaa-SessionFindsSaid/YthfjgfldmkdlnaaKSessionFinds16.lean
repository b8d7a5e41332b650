/- SessionFinds: texts of this claim, packed: what the kit's print has written for it and own texts, without what its proof does not reach. -/
import Derived.Test.YthfjgfldmkdlnaaKSessionFinds11
import Derived.Test.YthfjgfldmkdlnaaKSessionFinds14
import Derived.Test.YthfjgfldmkdlnaaKSessionFinds15
set_option linter.unusedVariables false
set_option linter.unusedSimpArgs false
set_option linter.unusedSectionVars false
section
namespace Go.Proofs.Ythfjgfldmkdlnaa.G
open WB Go.RowKit Go.Proofs.YthfjgfldmkdlnaaW.PrintWords Go.Proofs.YthfjgfldmkdlnaaW.PrintLast Go.Proofs.YthfjgfldmkdlnaaW.PrintMore
attribute [local go_sem] max2_int min2_int max_two min_two max_three min_three max_four min_four   -- for this text's walks alone
set_option linter.unusedVariables false
set_option linter.unusedSimpArgs false
def waybilllaw23_SessionFinds.f (l0 : List (S38)) (a1_0 : Int) (a1_1 : Int) (a1_2 : Int) (a2 : Int) (a3 : Int) (a4 : Int) (a5 : Int) : Option (Bool) := (waybilllaw23_alive.f).bind fun t125 => (if t125 = true then ((session_Open.f l0 a1_0 a1_1 a1_2 a2 a3 a4).bind fun bt126 => ((waybilllaw23_num.f bt126.2.2).bind fun t131 => (if t131 = 0 then ((session_Find.f bt126.1 a1_0 a1_1 a1_2 bt126.2.1 a3 a2 a4).bind fun bt132 => ((session_Find.f bt126.1 a1_0 a1_1 a1_2 bt126.2.1 a3 a2 a5).bind fun bt134 => (if 0 ≤ bt132.1 then (if bt132.1 < (bt126.1.length : Int) then ((session_Touch.f bt126.1 a1_0 a1_1 a1_2 bt126.2.1 a3 bt132.1 ((rd_T38 bt126.1 bt132.1).f3.f0) ((rd_T38 bt126.1 bt132.1).f3.f1)).bind fun bt137 => ((waybilllaw23_num.f bt132.2).bind fun t141 => ((waybilllaw23_num.f bt137.2).bind fun t142 => (if (wrap64 (t141 + t142)) = 0 then (if bt132.1 = (l0.length : Int) then ((waybilllaw23_num.f bt134.2).bind fun t143 => (if ((t143 == 71) == (a4 != a5)) = true then (if bt132.1 < (bt137.1.length : Int) then (if ((rd_T38 bt137.1 bt132.1).f2) = a3 then (some ((bt137.1.length : Int) == (bt126.1.length : Int))) else (some false)) else (none)) else (some false))) else (some false)) else (some false))))) else (none)) else (none)))) else (if (bt126.1.length : Int) = 0 then (some (bt126.2.1 == 0)) else (some false))))) else (some false))
def waybilllaw23_SessionFinds.T8 : Bool × List (List Nat × List Nat) := (true, [([], []), ([], []), ([], []), ([], []), ([], []), ([], []), ([], []), ([5, 6], [5, 6]), ([7], [7]), ([8], [8]), ([0, 1, 2, 3, 4, 9], [0, 1, 2, 3, 4, 9]), ([10], [10]), ([11], [11]), ([11], [11]), ([12, 10, 0, 1, 2, 3, 4, 5, 6, 7, 8, 9, 10, 11, 12], [12]), ([13, 14, 0, 1, 2, 3, 4, 5, 6, 7, 8, 9, 10, 11, 12, 13, 14], [13])])
def waybilllaw23_SessionFinds.B8 : List Nat := [0, 0, 0, 0, 0, 0, 0, 96, 224, 480, 1023, 2047, 4095, 4095, 8191, 32767]
theorem waybilllaw23_SessionFinds.tab8 : rtab .any (opsOf Try.f3 8) = waybilllaw23_SessionFinds.T8 := by kernel_rfl
theorem waybilllaw23_SessionFinds.bits8 : waitsOk waybilllaw23_SessionFinds.T8.2 waybilllaw23_SessionFinds.B8 = true := by kernel_rfl
set_option maxHeartbeats 8000000 in
set_option maxRecDepth 100000 in
theorem waybilllaw23_SessionFinds.calls (A0 : Option Addr) (c0 : Nat) (l0 : List (S38)) (a1_0 : Int) (a1_1 : Int) (a1_2 : Int) (a2 : Int) (a3 : Int) (a4 : Int) (a5 : Int) (r : Bool) (w : World) (hr0 : Kd.C k38 w A0 l0.length l0) (hc0 : l0.length ≤ c0) (h : waybilllaw23_SessionFinds.f l0 a1_0 a1_1 a1_2 a2 a3 a4 a5 = some r)  (hrt : r = true) :
    Calls Try.prog 3 #[.slice A0 l0.length c0, .agg #[.int .i64 a1_0, .int .i64 a1_1, .int .i64 a1_2], .int .i64 a2, .int .i64 a3, .int .i64 a4, .int .i64 a5] w fun e w' => e = .returned (.bool r) ∧ Below w.heap.size w w' := by
  have hu24 := Try.underlying24
  have hu36 := Try.underlying36
  have HR0 := Aside0.mk hr0
  have HC0 := Aside0.mk hc0
  clear hr0 hc0
  have HB := Aside0.mk (Below.refl w.heap.size w)
  have H : ((waybilllaw23_alive.f).bind fun t125 => (if t125 = true then ((session_Open.f l0 a1_0 a1_1 a1_2 a2 a3 a4).bind fun bt126 => ((waybilllaw23_num.f bt126.2.2).bind fun t131 => (if t131 = 0 then ((session_Find.f bt126.1 a1_0 a1_1 a1_2 bt126.2.1 a3 a2 a4).bind fun bt132 => ((session_Find.f bt126.1 a1_0 a1_1 a1_2 bt126.2.1 a3 a2 a5).bind fun bt134 => (if 0 ≤ bt132.1 then (if bt132.1 < (bt126.1.length : Int) then ((session_Touch.f bt126.1 a1_0 a1_1 a1_2 bt126.2.1 a3 bt132.1 ((rd_T38 bt126.1 bt132.1).f3.f0) ((rd_T38 bt126.1 bt132.1).f3.f1)).bind fun bt137 => ((waybilllaw23_num.f bt132.2).bind fun t141 => ((waybilllaw23_num.f bt137.2).bind fun t142 => (if (wrap64 (t141 + t142)) = 0 then (if bt132.1 = (l0.length : Int) then ((waybilllaw23_num.f bt134.2).bind fun t143 => (if ((t143 == 71) == (a4 != a5)) = true then (if bt132.1 < (bt137.1.length : Int) then (if ((rd_T38 bt137.1 bt132.1).f2) = a3 then (some ((bt137.1.length : Int) == (bt126.1.length : Int))) else (some false)) else (none)) else (some false))) else (some false)) else (some false))))) else (none)) else (none)))) else (if (bt126.1.length : Int) = 0 then (some (bt126.2.1 == 0)) else (some false))))) else (some false))) = some r := h
  clear h
  replace H := Option.bind_eq_some_iff.mp H
  obtain ⟨t125, A70, H⟩ := H
  replace H : (if t125 = true then ((session_Open.f l0 a1_0 a1_1 a1_2 a2 a3 a4).bind fun bt126 => ((waybilllaw23_num.f bt126.2.2).bind fun t131 => (if t131 = 0 then ((session_Find.f bt126.1 a1_0 a1_1 a1_2 bt126.2.1 a3 a2 a4).bind fun bt132 => ((session_Find.f bt126.1 a1_0 a1_1 a1_2 bt126.2.1 a3 a2 a5).bind fun bt134 => (if 0 ≤ bt132.1 then (if bt132.1 < (bt126.1.length : Int) then ((session_Touch.f bt126.1 a1_0 a1_1 a1_2 bt126.2.1 a3 bt132.1 ((rd_T38 bt126.1 bt132.1).f3.f0) ((rd_T38 bt126.1 bt132.1).f3.f1)).bind fun bt137 => ((waybilllaw23_num.f bt132.2).bind fun t141 => ((waybilllaw23_num.f bt137.2).bind fun t142 => (if (wrap64 (t141 + t142)) = 0 then (if bt132.1 = (l0.length : Int) then ((waybilllaw23_num.f bt134.2).bind fun t143 => (if ((t143 == 71) == (a4 != a5)) = true then (if bt132.1 < (bt137.1.length : Int) then (if ((rd_T38 bt137.1 bt132.1).f2) = a3 then (some ((bt137.1.length : Int) == (bt126.1.length : Int))) else (some false)) else (none)) else (some false))) else (some false)) else (some false))))) else (none)) else (none)))) else (if (bt126.1.length : Int) = 0 then (some (bt126.2.1 == 0)) else (some false))))) else (some false)) = some r := H
  have A7 := Aside0.mk A70
  clear A70
  by_cases c8 : t125 = true
  · subst c8
    have H1 : ((session_Open.f l0 a1_0 a1_1 a1_2 a2 a3 a4).bind fun bt126 => ((waybilllaw23_num.f bt126.2.2).bind fun t131 => (if t131 = 0 then ((session_Find.f bt126.1 a1_0 a1_1 a1_2 bt126.2.1 a3 a2 a4).bind fun bt132 => ((session_Find.f bt126.1 a1_0 a1_1 a1_2 bt126.2.1 a3 a2 a5).bind fun bt134 => (if 0 ≤ bt132.1 then (if bt132.1 < (bt126.1.length : Int) then ((session_Touch.f bt126.1 a1_0 a1_1 a1_2 bt126.2.1 a3 bt132.1 ((rd_T38 bt126.1 bt132.1).f3.f0) ((rd_T38 bt126.1 bt132.1).f3.f1)).bind fun bt137 => ((waybilllaw23_num.f bt132.2).bind fun t141 => ((waybilllaw23_num.f bt137.2).bind fun t142 => (if (wrap64 (t141 + t142)) = 0 then (if bt132.1 = (l0.length : Int) then ((waybilllaw23_num.f bt134.2).bind fun t143 => (if ((t143 == 71) == (a4 != a5)) = true then (if bt132.1 < (bt137.1.length : Int) then (if ((rd_T38 bt137.1 bt132.1).f2) = a3 then (some ((bt137.1.length : Int) == (bt126.1.length : Int))) else (some false)) else (none)) else (some false))) else (some false)) else (some false))))) else (none)) else (none)))) else (if (bt126.1.length : Int) = 0 then (some (bt126.2.1 == 0)) else (some false))))) = some r := by rw [if_pos rfl] at H; exact H
    clear H
    have H := H1
    clear H1
    replace H := Option.bind_eq_some_iff.mp H
    obtain ⟨⟨t126, t129, t130⟩, A90, H⟩ := H
    replace H : ((waybilllaw23_num.f t130).bind fun t131 => (if t131 = 0 then ((session_Find.f t126 a1_0 a1_1 a1_2 t129 a3 a2 a4).bind fun bt132 => ((session_Find.f t126 a1_0 a1_1 a1_2 t129 a3 a2 a5).bind fun bt134 => (if 0 ≤ bt132.1 then (if bt132.1 < (t126.length : Int) then ((session_Touch.f t126 a1_0 a1_1 a1_2 t129 a3 bt132.1 ((rd_T38 t126 bt132.1).f3.f0) ((rd_T38 t126 bt132.1).f3.f1)).bind fun bt137 => ((waybilllaw23_num.f bt132.2).bind fun t141 => ((waybilllaw23_num.f bt137.2).bind fun t142 => (if (wrap64 (t141 + t142)) = 0 then (if bt132.1 = (l0.length : Int) then ((waybilllaw23_num.f bt134.2).bind fun t143 => (if ((t143 == 71) == (a4 != a5)) = true then (if bt132.1 < (bt137.1.length : Int) then (if ((rd_T38 bt137.1 bt132.1).f2) = a3 then (some ((bt137.1.length : Int) == (t126.length : Int))) else (some false)) else (none)) else (some false))) else (some false)) else (some false))))) else (none)) else (none)))) else (if (t126.length : Int) = 0 then (some (t129 == 0)) else (some false)))) = some r := H
    have A9 := Aside0.mk A90
    clear A90
    replace H := Option.bind_eq_some_iff.mp H
    obtain ⟨t131, A100, H⟩ := H
    replace H : (if t131 = 0 then ((session_Find.f t126 a1_0 a1_1 a1_2 t129 a3 a2 a4).bind fun bt132 => ((session_Find.f t126 a1_0 a1_1 a1_2 t129 a3 a2 a5).bind fun bt134 => (if 0 ≤ bt132.1 then (if bt132.1 < (t126.length : Int) then ((session_Touch.f t126 a1_0 a1_1 a1_2 t129 a3 bt132.1 ((rd_T38 t126 bt132.1).f3.f0) ((rd_T38 t126 bt132.1).f3.f1)).bind fun bt137 => ((waybilllaw23_num.f bt132.2).bind fun t141 => ((waybilllaw23_num.f bt137.2).bind fun t142 => (if (wrap64 (t141 + t142)) = 0 then (if bt132.1 = (l0.length : Int) then ((waybilllaw23_num.f bt134.2).bind fun t143 => (if ((t143 == 71) == (a4 != a5)) = true then (if bt132.1 < (bt137.1.length : Int) then (if ((rd_T38 bt137.1 bt132.1).f2) = a3 then (some ((bt137.1.length : Int) == (t126.length : Int))) else (some false)) else (none)) else (some false))) else (some false)) else (some false))))) else (none)) else (none)))) else (if (t126.length : Int) = 0 then (some (t129 == 0)) else (some false))) = some r := H
    have A10 := Aside0.mk A100
    clear A100
    by_cases c11 : t131 = 0
    · rw [if_pos c11] at H
      have c11b0 : (t131 == 0) = true := beq_iff_eq.mpr c11
      have c11b1 : (t131 != 0) = false := bne_eq_false_iff_eq.mpr c11
      clear c11
      replace H := Option.bind_eq_some_iff.mp H
      obtain ⟨⟨t132, t133⟩, A120, H⟩ := H
      replace H : ((session_Find.f t126 a1_0 a1_1 a1_2 t129 a3 a2 a5).bind fun bt134 => (if 0 ≤ t132 then (if t132 < (t126.length : Int) then ((session_Touch.f t126 a1_0 a1_1 a1_2 t129 a3 t132 ((rd_T38 t126 t132).f3.f0) ((rd_T38 t126 t132).f3.f1)).bind fun bt137 => ((waybilllaw23_num.f t133).bind fun t141 => ((waybilllaw23_num.f bt137.2).bind fun t142 => (if (wrap64 (t141 + t142)) = 0 then (if t132 = (l0.length : Int) then ((waybilllaw23_num.f bt134.2).bind fun t143 => (if ((t143 == 71) == (a4 != a5)) = true then (if t132 < (bt137.1.length : Int) then (if ((rd_T38 bt137.1 t132).f2) = a3 then (some ((bt137.1.length : Int) == (t126.length : Int))) else (some false)) else (none)) else (some false))) else (some false)) else (some false))))) else (none)) else (none))) = some r := H
      have A12 := Aside0.mk A120
      clear A120
      replace H := Option.bind_eq_some_iff.mp H
      obtain ⟨⟨t134, t135⟩, A130, H⟩ := H
      replace H : (if 0 ≤ t132 then (if t132 < (t126.length : Int) then ((session_Touch.f t126 a1_0 a1_1 a1_2 t129 a3 t132 ((rd_T38 t126 t132).f3.f0) ((rd_T38 t126 t132).f3.f1)).bind fun bt137 => ((waybilllaw23_num.f t133).bind fun t141 => ((waybilllaw23_num.f bt137.2).bind fun t142 => (if (wrap64 (t141 + t142)) = 0 then (if t132 = (l0.length : Int) then ((waybilllaw23_num.f t135).bind fun t143 => (if ((t143 == 71) == (a4 != a5)) = true then (if t132 < (bt137.1.length : Int) then (if ((rd_T38 bt137.1 t132).f2) = a3 then (some ((bt137.1.length : Int) == (t126.length : Int))) else (some false)) else (none)) else (some false))) else (some false)) else (some false))))) else (none)) else (none)) = some r := H
      have A13 := Aside0.mk A130
      clear A130
      by_cases c14 : 0 ≤ t132
      · rw [if_pos c14] at H
        have c14b0 : decide (0 ≤ t132) = true := decide_eq_true c14
        clear c14
        by_cases c15 : t132 < (t126.length : Int)
        · rw [if_pos c15] at H
          have c15b0 : decide (t132 < (t126.length : Int)) = true := decide_eq_true c15
          clear c15
          replace H := Option.bind_eq_some_iff.mp H
          obtain ⟨⟨t137, t140⟩, A160, H⟩ := H
          replace H : ((waybilllaw23_num.f t133).bind fun t141 => ((waybilllaw23_num.f t140).bind fun t142 => (if (wrap64 (t141 + t142)) = 0 then (if t132 = (l0.length : Int) then ((waybilllaw23_num.f t135).bind fun t143 => (if ((t143 == 71) == (a4 != a5)) = true then (if t132 < (t137.length : Int) then (if ((rd_T38 t137 t132).f2) = a3 then (some ((t137.length : Int) == (t126.length : Int))) else (some false)) else (none)) else (some false))) else (some false)) else (some false)))) = some r := H
          have A16 := Aside0.mk A160
          clear A160
          replace H := Option.bind_eq_some_iff.mp H
          obtain ⟨t141, A170, H⟩ := H
          replace H : ((waybilllaw23_num.f t140).bind fun t142 => (if (wrap64 (t141 + t142)) = 0 then (if t132 = (l0.length : Int) then ((waybilllaw23_num.f t135).bind fun t143 => (if ((t143 == 71) == (a4 != a5)) = true then (if t132 < (t137.length : Int) then (if ((rd_T38 t137 t132).f2) = a3 then (some ((t137.length : Int) == (t126.length : Int))) else (some false)) else (none)) else (some false))) else (some false)) else (some false))) = some r := H
          have A17 := Aside0.mk A170
          clear A170
          replace H := Option.bind_eq_some_iff.mp H
          obtain ⟨t142, A180, H⟩ := H
          replace H : (if (wrap64 (t141 + t142)) = 0 then (if t132 = (l0.length : Int) then ((waybilllaw23_num.f t135).bind fun t143 => (if ((t143 == 71) == (a4 != a5)) = true then (if t132 < (t137.length : Int) then (if ((rd_T38 t137 t132).f2) = a3 then (some ((t137.length : Int) == (t126.length : Int))) else (some false)) else (none)) else (some false))) else (some false)) else (some false)) = some r := H
          have A18 := Aside0.mk A180
          clear A180
          by_cases c19 : (wrap64 (t141 + t142)) = 0
          · rw [if_pos c19] at H
            have c19b0 : ((wrap64 (t141 + t142)) == 0) = true := beq_iff_eq.mpr c19
            have c19b1 : ((wrap64 (t141 + t142)) != 0) = false := bne_eq_false_iff_eq.mpr c19
            clear c19
            by_cases c20 : t132 = (l0.length : Int)
            · rw [if_pos c20] at H
              have c20b0 : (t132 == (l0.length : Int)) = true := beq_iff_eq.mpr c20
              have c20b1 : (t132 != (l0.length : Int)) = false := bne_eq_false_iff_eq.mpr c20
              clear c20
              replace H := Option.bind_eq_some_iff.mp H
              obtain ⟨t143, A210, H⟩ := H
              replace H : (if ((t143 == 71) == (a4 != a5)) = true then (if t132 < (t137.length : Int) then (if ((rd_T38 t137 t132).f2) = a3 then (some ((t137.length : Int) == (t126.length : Int))) else (some false)) else (none)) else (some false)) = some r := H
              have A21 := Aside0.mk A210
              clear A210
              by_cases c22 : ((t143 == 71) == (a4 != a5)) = true
              · rw [if_pos c22] at H
                have c22b0 : ((t143 == 71) == (a4 != a5)) = true := c22
                (try (have c22b1 : decide ((t143 == 71) = (a4 != a5)) = true := by simpa using c22))
                (try (have c22b2 : ((t143 == 71) == (a4 != a5)) = true := by simpa using c22))
                clear c22
                by_cases c23 : t132 < (t137.length : Int)
                · rw [if_pos c23] at H
                  have c23b0 : decide (t132 < (t137.length : Int)) = true := decide_eq_true c23
                  clear c23
                  by_cases c24 : ((rd_T38 t137 t132).f2) = a3
                  · rw [if_pos c24] at H
                    have c24b0 : (((rd_T38 t137 t132).f2) == a3) = true := beq_iff_eq.mpr c24
                    have c24b1 : (((rd_T38 t137 t132).f2) != a3) = false := bne_eq_false_iff_eq.mpr c24
                    clear c24
                    obtain rfl := Option.some.inj H
                    simp only [Option.some.injEq, Prod.mk.injEq] at H
                    obtain ⟨rfl⟩ := H
                    go_enter Try.func3, Try.ntmps3
                    try go_wp2_with (first | ((with_reducible refine gate_dst (N := 7) rfl ?_); (try (refine gate_guard (by rfl) ?_; dsimp only)); refine box_event ?hg (N := 7) ?hd (cs := #[.int .i64 a1_0, .int .i64 a1_1, .int .i64 a1_2]) (t := 24) ?hr ?_; (case hd => rfl); (case hg => rfl); (case hr => first | (go_simp; done) | (go_simp; rfl)); intro gb124 hg w25 hbox hb; have n0_ := Aside0.mk (below_step (by repeat (first | (with_reducible first | exact HB.out | apply below_alloc | apply pw_below_drewN | apply below_drew1) | exact HB.out)) hb); have n1_ := Aside0.mk (hbox); have n2_ := Aside0.mk ((by rw [hg]; exact (below_size (by repeat (first | (with_reducible first | exact HB.out | apply below_alloc | apply pw_below_drewN | apply below_drew1) | exact HB.out))) : w.heap.size ≤ gb124)); have n3_ := Aside0.mk ((by rw [hg]; exact (below_size (by repeat (first | (with_reducible first | exact HB.out | apply below_alloc | apply pw_below_drewN | apply below_drew1) | exact HB.out))) : w.heap.size ≤ gb124)); clear HB; have HB := n0_; have BK124 := n1_; have GW124 := n2_; have GE124 := n3_; clear n0_ n1_ n2_ n3_; clear hb hbox hg) | ((with_reducible refine gate_callee (f := 9) rfl ?_); refine goesL_ (some 22) rfl rfl Try.func9 (by kernel_rfl) rfl #[] rfl (by (try simp only [List.map_toArray, List.map_cons, List.map_nil]); first | done | rfl | (simp only [List.length_drop, List.length_take]; rfl)) ?_; (with_reducible refine (waybilllaw23_alive.calls  true _ A7.out).mono ?_); rintro e w26 ⟨rfl, hb⟩; refine ⟨_, rfl, ?_⟩; have n0_ := Aside0.mk (blk_below (g := gb124) (o := .cells #[.int .i64 a1_0, .int .i64 a1_1, .int .i64 a1_2] 24 (0, 0)) (by (with_reducible repeat (first | refine blk_drewN ?_ _ | refine blk_drew ?_ | refine blk_alloc ?_ _)); exact BK124.out) hb); have n1_ := Aside0.mk (below_step (by repeat (first | (with_reducible first | exact HB.out | apply below_alloc | apply pw_below_drewN | apply below_drew1 | refine below_set ?_ GE124.out) | exact HB.out)) hb); clear BK124; clear HB; have BK124 := n0_; have HB := n1_; clear n0_ n1_; (try clear hb); (try clear hb2); (try clear hk); (try clear hi); have hcz27_0 : w26.cell? ⟨gb124, 0, none⟩ = some (.int .i64 a1_0) := (blk_cell BK124.out 0).trans rfl; have hcz27_1 : w26.cell? ⟨gb124, 1, none⟩ = some (.int .i64 a1_1) := (blk_cell BK124.out 1).trans rfl; have hcz27_2 : w26.cell? ⟨gb124, 2, none⟩ = some (.int .i64 a1_2) := (blk_cell BK124.out 2).trans rfl; have hfz27_0 := blk_frozen BK124.out 0; have hfz27_1 := blk_frozen BK124.out 1; have hfz27_2 := blk_frozen BK124.out 2) | ((with_reducible refine gate_callee (f := 10) rfl ?_); refine goesL_ (some 30) rfl rfl Try.func10 (by kernel_rfl) rfl #[.slice A0 l0.length c0, .agg #[.int .i64 a1_0, .int .i64 a1_1, .int .i64 a1_2], .int .i64 a2, .int .i64 a3, .int .i64 a4] rfl (by (try simp only [List.map_toArray, List.map_cons, List.map_nil]); first | done | rfl | (simp only [List.length_drop, List.length_take]; rfl)) ?_; (with_reducible refine (session_Open.calls _ _ l0 a1_0 a1_1 a1_2 a2 a3 a4 t126 t129 t130 _ ?side1 ?side2 A9.out).mono ?_); (case side1 => repeat (first | exact (Kd.C_below HR0.out HB.out) | (with_reducible refine Kd.C_alloc ?_ _) | (with_reducible refine Kd.C_drewN ?_ _) | (with_reducible refine Kd.C_drew ?_))); (case side2 => exact HC0.out); rintro e w28 ⟨v127, rfl, ho0, hb⟩; refine ⟨_, rfl, ?_⟩; have n0_ := Aside0.mk (Kd.R_lower ho0 (below_size (by repeat (first | (with_reducible first | exact HB.out | apply below_alloc | apply pw_below_drewN | apply below_drew1 | refine below_set ?_ GE124.out) | exact HB.out)))); have n1_ := Aside0.mk (blk_below (g := gb124) (o := .cells #[.int .i64 a1_0, .int .i64 a1_1, .int .i64 a1_2] 24 (0, 0)) (by (with_reducible repeat (first | refine blk_drewN ?_ _ | refine blk_drew ?_ | refine blk_alloc ?_ _)); exact BK124.out) hb); have n2_ := Aside0.mk (below_step (by repeat (first | (with_reducible first | exact HB.out | apply below_alloc | apply pw_below_drewN | apply below_drew1 | refine below_set ?_ GE124.out) | exact HB.out)) hb); clear BK124; clear HB; have HO128 := n0_; have BK124 := n1_; have HB := n2_; clear n0_ n1_ n2_; (try clear hb); (try clear hb2); (try clear hk); (try clear hi); (try clear ho0)) | ((with_reducible refine gate_callee (f := 11) rfl ?_); refine goesL_ (some 35) rfl rfl Try.func11 (by kernel_rfl) rfl #[.int .i64 t130] rfl (by (try simp only [List.map_toArray, List.map_cons, List.map_nil]); first | done | rfl | (simp only [List.length_drop, List.length_take]; rfl)) ?_; (with_reducible refine (waybilllaw23_num.calls t130 t131 _ A10.out).mono ?_); rintro e w' ⟨rfl, ⟨nd, rfl⟩⟩; refine ⟨_, rfl, ?_⟩; have hcz29_0 : w28.cell? ⟨gb124, 0, none⟩ = some (.int .i64 a1_0) := (blk_cell BK124.out 0).trans rfl; have hcz29_1 : w28.cell? ⟨gb124, 1, none⟩ = some (.int .i64 a1_1) := (blk_cell BK124.out 1).trans rfl; have hcz29_2 : w28.cell? ⟨gb124, 2, none⟩ = some (.int .i64 a1_2) := (blk_cell BK124.out 2).trans rfl; have hfz29_0 := blk_frozen BK124.out 0; have hfz29_1 := blk_frozen BK124.out 1; have hfz29_2 := blk_frozen BK124.out 2; obtain ⟨Ao30, co30, eo30⟩ := Kd.R_slice HO128.out; subst eo30) | ((with_reducible refine gate_callee (f := 12) rfl ?_); refine goesL_ (some 51) rfl rfl Try.func12 (by kernel_rfl) rfl #[.slice Ao30 t126.length co30, .agg #[.int .i64 a1_0, .int .i64 a1_1, .int .i64 a1_2], .int .i64 t129, .int .i64 a3, .int .i64 a2, .int .i64 a4] rfl (by (try simp only [List.map_toArray, List.map_cons, List.map_nil]); first | done | rfl | (simp only [List.length_drop, List.length_take]; rfl)) ?_; (with_reducible refine (session_Find.calls _ _ t126 a1_0 a1_1 a1_2 t129 a3 a2 a4 t132 t133 _ ?side1 ?side2 A12.out).mono ?_); (case side1 => repeat (first | exact (Kd.R_reads' HO128.out).2.2 | (with_reducible refine Kd.C_alloc ?_ _) | (with_reducible refine Kd.C_drewN ?_ _) | (with_reducible refine Kd.C_drew ?_))); (case side2 => exact (Kd.R_reads' HO128.out).2.1); rintro e w31 ⟨rfl, hb⟩; refine ⟨_, rfl, ?_⟩; have n0_ := Aside0.mk (Kd.R_below (by (with_reducible repeat (first | apply Kd.R_alloc | apply Kd.R_drewN | apply Kd.R_drew)); exact HO128.out) hb); have n1_ := Aside0.mk (blk_below (g := gb124) (o := .cells #[.int .i64 a1_0, .int .i64 a1_1, .int .i64 a1_2] 24 (0, 0)) (by (with_reducible repeat (first | refine blk_drewN ?_ _ | refine blk_drew ?_ | refine blk_alloc ?_ _)); exact BK124.out) hb); have n2_ := Aside0.mk (below_step (by repeat (first | (with_reducible first | exact HB.out | apply below_alloc | apply pw_below_drewN | apply below_drew1 | refine below_set ?_ GE124.out) | exact HB.out)) hb); clear HO128; clear BK124; clear HB; have HO128 := n0_; have BK124 := n1_; have HB := n2_; clear n0_ n1_ n2_; (try clear hb); (try clear hb2); (try clear hk); (try clear hi); have hcz32_0 : w31.cell? ⟨gb124, 0, none⟩ = some (.int .i64 a1_0) := (blk_cell BK124.out 0).trans rfl; have hcz32_1 : w31.cell? ⟨gb124, 1, none⟩ = some (.int .i64 a1_1) := (blk_cell BK124.out 1).trans rfl; have hcz32_2 : w31.cell? ⟨gb124, 2, none⟩ = some (.int .i64 a1_2) := (blk_cell BK124.out 2).trans rfl; have hfz32_0 := blk_frozen BK124.out 0; have hfz32_1 := blk_frozen BK124.out 1; have hfz32_2 := blk_frozen BK124.out 2) | ((with_reducible refine gate_callee (f := 12) rfl ?_); refine goesL_ (some 61) rfl rfl Try.func12 (by kernel_rfl) rfl #[.slice Ao30 t126.length co30, .agg #[.int .i64 a1_0, .int .i64 a1_1, .int .i64 a1_2], .int .i64 t129, .int .i64 a3, .int .i64 a2, .int .i64 a5] rfl (by (try simp only [List.map_toArray, List.map_cons, List.map_nil]); first | done | rfl | (simp only [List.length_drop, List.length_take]; rfl)) ?_; (with_reducible refine (session_Find.calls _ _ t126 a1_0 a1_1 a1_2 t129 a3 a2 a5 t134 t135 _ ?side1 ?side2 A13.out).mono ?_); (case side1 => repeat (first | exact (Kd.R_reads' HO128.out).2.2 | (with_reducible refine Kd.C_alloc ?_ _) | (with_reducible refine Kd.C_drewN ?_ _) | (with_reducible refine Kd.C_drew ?_))); (case side2 => exact (Kd.R_reads' HO128.out).2.1); rintro e w33 ⟨rfl, hb⟩; refine ⟨_, rfl, ?_⟩; have n0_ := Aside0.mk (Kd.R_below (by (with_reducible repeat (first | apply Kd.R_alloc | apply Kd.R_drewN | apply Kd.R_drew)); exact HO128.out) hb); have n1_ := Aside0.mk (blk_below (g := gb124) (o := .cells #[.int .i64 a1_0, .int .i64 a1_1, .int .i64 a1_2] 24 (0, 0)) (by (with_reducible repeat (first | refine blk_drewN ?_ _ | refine blk_drew ?_ | refine blk_alloc ?_ _)); exact BK124.out) hb); have n2_ := Aside0.mk (below_step (by repeat (first | (with_reducible first | exact HB.out | apply below_alloc | apply pw_below_drewN | apply below_drew1 | refine below_set ?_ GE124.out) | exact HB.out)) hb); clear HO128; clear BK124; clear HB; have HO128 := n0_; have BK124 := n1_; have HB := n2_; clear n0_ n1_ n2_; (try clear hb); (try clear hb2); (try clear hk); (try clear hi)))
                    have n0_ := Aside0.mk (Kd.R_drew HO128.out)
                    have n1_ := Aside0.mk (blk_drew BK124.out)
                    have n2_ := Aside0.mk (below_drew1 HB.out)
                    clear HO128
                    clear BK124
                    clear HB
                    have HO128 := n0_
                    have BK124 := n1_
                    have HB := n2_
                    clear n0_ n1_ n2_
                    have p136 : 0 ≤ (t132 : Int) := of_decide_eq_true (by first | (with_reducible assumption) | assumption)
                    have q136 : t132 < (t126.length : Int) := of_decide_eq_true (by first | (with_reducible assumption) | assumption)
                    obtain ⟨ad136, A136_4, c136_4, e136, hx136_0, hx136_1, hx136_2, hx136_3, hx136_4, hl136_4, hi136_4⟩ := at_T38 (Kd.R_reads' HO128.out).2.2 t132 p136 q136
                    cases e136
                    obtain ⟨ce136, hce136, hMe136, hcc136⟩ := Kd.R_get HO128.out z38 t132 p136 (by first | exact q136 | exact of_decide_eq_true (by first | (with_reducible assumption) | assumption) | (have e_ := (Kd.R_reads' HO128.out).1; omega))
                    obtain ⟨ve136_4, rfl, ge136_4⟩ := k38_openM hMe136
                    have hv136_4 := hcc136 4 _ rfl
                    rw [add_field _ _ 4 (by omega)] at hv136_4
                    replace hv136_4 := Option.some.inj (hv136_4.symm.trans hx136_4)
                    rw [hv136_4] at ge136_4
                    have HL136_4 := Aside0.mk (show Kd.R k51 51 _ _ _ _ ((rd_T38 t126 t132).f3.f1) from ge136_4)
                    clear hv136_4 ge136_4
                    clear hcc136 hce136
                    have HR136_4 := Aside0.mk hi136_4
                    have HC136_4 := Aside0.mk hl136_4
                    clear hi136_4 hl136_4
                    replace p136 := eq_true p136
                    replace q136 := eq_true q136
                    refine start_ (n := 16) (S := fun w' => w'.cell? ⟨gb124, 0, none⟩ = some (.int .i64 a1_0) ∧ w'.cell? ⟨gb124, 1, none⟩ = some (.int .i64 a1_1) ∧ w'.cell? ⟨gb124, 2, none⟩ = some (.int .i64 a1_2) ∧ w'.cell? (ad136.add ((t132).toNat * 5)) = some (.int .i64 ((rd_T38 t126 t132).f0)) ∧ w'.cell? ⟨(ad136.add ((t132).toNat * 5)).block, (ad136.add ((t132).toNat * 5)).off + 1, none⟩ = some (.int .i64 ((rd_T38 t126 t132).f1)) ∧ w'.cell? ⟨(ad136.add ((t132).toNat * 5)).block, (ad136.add ((t132).toNat * 5)).off + 2, none⟩ = some (.int .i64 ((rd_T38 t126 t132).f2)) ∧ w'.cell? ⟨(ad136.add ((t132).toNat * 5)).block, (ad136.add ((t132).toNat * 5)).off + 3, none⟩ = some (.int .i64 ((rd_T38 t126 t132).f3.f0)) ∧ w'.cell? ⟨(ad136.add ((t132).toNat * 5)).block, (ad136.add ((t132).toNat * 5)).off + 4, none⟩ = some (.slice A136_4 ((rd_T38 t126 t132).f3.f1).length c136_4)) (ds := []) #[false, false, false, false, false, false, false, false, false, false, false, false, false, false, false, false] (by kernel_rfl) rfl rfl ⟨(blk_cell BK124.out 0).trans rfl, (blk_cell BK124.out 1).trans rfl, (blk_cell BK124.out 2).trans rfl, hx136_0, hx136_1, hx136_2, hx136_3, hx136_4⟩ (fun hHeld => ?_); refine with_tabW waybilllaw23_SessionFinds.tab8 waybilllaw23_SessionFinds.bits8 (fun HT_ HW_ => ?_)
                    generalize w33.drew = w34 at HO128 BK124 HB HL136_4 HR136_4 hx136_0 hx136_1 hx136_2 hx136_3 hx136_4 hHeld ⊢
                    refine pure_ (i := 0) (N := some 65) (v := ?_) (a' := ?_) #[true, false, false, false, false, false, false, false, false, false, false, false, false, false, false, false] rfl rfl (any_of HT_.out (by kernel_rfl)) (fun _ _ _ h => h) (Or.inl ⟨by rfl, ?_⟩) ?_ ?_
                    rotate_left
                    · intro w'
                      go_simp
                      with_reducible rfl
                    rotate_left
                    · simp only [Act.put, List.setIfInBounds_toArray, List.set_cons_zero, List.set_cons_succ, i64_w, i32_w]
                      rfl
                    refine pure_ (i := 2) (N := some 67) (v := ?_) (a' := ?_) #[true, false, true, false, false, false, false, false, false, false, false, false, false, false, false, false] rfl rfl (any_of HT_.out (by kernel_rfl)) (fun _ _ _ h => h) (Or.inl ⟨by rfl, ?_⟩) ?_ ?_
                    rotate_left
                    · intro w'
                      go_simp
                      with_reducible rfl
                    rotate_left
                    · simp only [Act.put, List.setIfInBounds_toArray, List.set_cons_zero, List.set_cons_succ, i64_w, i32_w]
                      rfl
                    refine pure_ (i := 3) (N := some 68) (v := ?_) (a' := ?_) #[true, false, true, true, false, false, false, false, false, false, false, false, false, false, false, false] rfl rfl (any_of HT_.out (by kernel_rfl)) (fun _ _ _ h => h) (Or.inl ⟨by rfl, ?_⟩) ?_ ?_
                    rotate_left
                    · intro w'
                      go_simp
                      with_reducible rfl
                    rotate_left
                    · simp only [Act.put, List.setIfInBounds_toArray, List.set_cons_zero, List.set_cons_succ, i64_w, i32_w]
                      rfl
                    refine pure_ (i := 4) (N := some 69) (v := ?_) (a' := ?_) #[true, false, true, true, true, false, false, false, false, false, false, false, false, false, false, false] rfl rfl (any_of HT_.out (by kernel_rfl)) (fun _ _ _ h => h) (Or.inl ⟨by rfl, ?_⟩) ?_ ?_
                    rotate_left
                    · intro w'
                      go_simp
                      with_reducible rfl
                    rotate_left
                    · simp only [Act.put, List.setIfInBounds_toArray, List.set_cons_zero, List.set_cons_succ, i64_w, i32_w]
                      rfl
                    refine pure_ (i := 5) (N := some 70) (v := ?_) (a' := ?_) #[true, false, true, true, true, true, false, false, false, false, false, false, false, false, false, false] rfl rfl (any_of HT_.out (by kernel_rfl)) (fun _ _ _ h => h) (Or.inl ⟨by rfl, ?_⟩) ?_ ?_
                    rotate_left
                    · intro w'
                      go_simp
                      with_reducible rfl
                    rotate_left
                    · simp only [Act.put, List.setIfInBounds_toArray, List.set_cons_zero, List.set_cons_succ, i64_w, i32_w]
                      rfl
                    refine pure_ (i := 6) (N := some 71) (v := ?_) (a' := ?_) #[true, false, true, true, true, true, true, false, false, false, false, false, false, false, false, false] rfl rfl (any_of HT_.out (by kernel_rfl)) (fun _ _ _ h => h) (Or.inl ⟨by rfl, ?_⟩) ?_ ?_
                    rotate_left
                    · intro w'
                      go_simp
                      with_reducible rfl
                    rotate_left
                    · simp only [Act.put, List.setIfInBounds_toArray, List.set_cons_zero, List.set_cons_succ, i64_w, i32_w]
                      rfl
                    refine pure_ (i := 7) (N := some 72) (v := ?_) (a' := ?_) #[true, false, true, true, true, true, true, true, false, false, false, false, false, false, false, false] rfl rfl (any_of HT_.out (by kernel_rfl)) (fun _ _ _ h => h) (Or.inl ⟨by rfl, ?_⟩) ?_ ?_
                    rotate_left
                    · intro w'
                      go_simp
                      with_reducible rfl
                    rotate_left
                    · simp only [Act.put, List.setIfInBounds_toArray, List.set_cons_zero, List.set_cons_succ, i64_w, i32_w]
                      rfl
                    refine pure_ (i := 8) (N := some 73) (v := ?_) (a' := ?_) #[true, false, true, true, true, true, true, true, true, false, false, false, false, false, false, false] rfl rfl (any_of HT_.out (by kernel_rfl)) (fun _ _ _ h => h) (Or.inl ⟨by rfl, ?_⟩) ?_ ?_
                    rotate_left
                    · intro w'
                      go_simp
                      with_reducible rfl
                    rotate_left
                    · simp only [Act.put, List.setIfInBounds_toArray, List.set_cons_zero, List.set_cons_succ, i64_w, i32_w]
                      rfl
                    refine take_ (i := 1) (N := some 66) (v := ?_) (a' := ?_) #[true, true, true, true, true, true, true, true, true, false, false, false, false, false, false, false] rfl rfl (take_ofW HT_.out HW_.out (by kernel_rfl)) (fun _ _ _ h => h) (Or.inl ⟨by rfl, ?_⟩) hHeld ?_ ?_
                    rotate_left
                    · rintro w' ⟨s0, s1, s2, s3, s4, s5, s6, s7⟩
                      go_simp
                      with_reducible rfl
                    rotate_left
                    · simp only [Act.put, List.setIfInBounds_toArray, List.set_cons_zero, List.set_cons_succ, i64_w, i32_w]
                      rfl
                    refine take_ (i := 9) (N := some 74) (v := ?_) (a' := ?_) #[true, true, true, true, true, true, true, true, true, true, false, false, false, false, false, false] rfl rfl (take_ofW HT_.out HW_.out (by kernel_rfl)) (fun _ _ _ h => h) (Or.inl ⟨by rfl, ?_⟩) hHeld ?_ ?_
                    rotate_left
                    · rintro w' ⟨s0, s1, s2, s3, s4, s5, s6, s7⟩
                      go_simp
                      with_reducible rfl
                    rotate_left
                    · simp only [Act.put, List.setIfInBounds_toArray, List.set_cons_zero, List.set_cons_succ, i64_w, i32_w]
                      rfl
                    refine one_ (i := 10) (N := some 75) #[true, true, true, true, true, true, true, true, true, true, true, false, false, false, false, false] rfl rfl (one_of HT_.out (by kernel_rfl)) (by decide) (fun K hK => ?_)
                    refine goes_ Try.func13 (by kernel_rfl) rfl #[.slice (some ad136) t126.length co30, .agg #[.int .i64 a1_0, .int .i64 a1_1, .int .i64 a1_2], .int .i64 t129, .int .i64 a3, .int .i64 t132, .agg #[.int .i64 ((rd_T38 t126 t132).f3.f0), .slice A136_4 ((rd_T38 t126 t132).f3.f1).length c136_4]] (by rfl) rfl rfl (by (try simp only [List.map_toArray, List.map_cons, List.map_nil]); first | done | rfl | (simp only [List.length_drop, List.length_take]; rfl)) ?_
                    with_reducible refine (session_Touch.calls _ _ t126 a1_0 a1_1 a1_2 t129 a3 t132 ((rd_T38 t126 t132).f3.f0) _ _ ((rd_T38 t126 t132).f3.f1) t137 t140 _ ?side1 ?side2 ?side3 ?side4 A16.out).mono ?_
                    (case side1 => repeat (first | exact (Kd.R_reads' HO128.out).2.2 | (with_reducible refine Kd.C_alloc ?_ _) | (with_reducible refine Kd.C_drewN ?_ _) | (with_reducible refine Kd.C_drew ?_)))
                    (case side2 => exact (Kd.R_reads' HO128.out).2.1)
                    (case side3 => repeat (first | exact (by repeat (first | (with_reducible exact HR136_4.out) | (with_reducible refine Kd.C_alloc ?_ _) | (with_reducible refine Kd.C_drewN ?_ _) | (with_reducible refine Kd.C_drew ?_) | exact HR136_4.out)) | (with_reducible refine Kd.C_alloc ?_ _) | (with_reducible refine Kd.C_drewN ?_ _) | (with_reducible refine Kd.C_drew ?_)))
                    (case side4 => exact HC136_4.out)
                    rintro e w35 ⟨v138, rfl, ho0, hb⟩
                    have HS3_ := (hb.cell (World.block_lt_of_cell? _ _ (hHeld.2.2.2.1))).trans (hHeld.2.2.2.1)
                    have HS4_ := (hb.cell (World.block_lt_of_cell? _ _ (hHeld.2.2.2.2.1))).trans (hHeld.2.2.2.2.1)
                    have HS5_ := (hb.cell (World.block_lt_of_cell? _ _ (hHeld.2.2.2.2.2.1))).trans (hHeld.2.2.2.2.2.1)
                    have HS6_ := (hb.cell (World.block_lt_of_cell? _ _ (hHeld.2.2.2.2.2.2.1))).trans (hHeld.2.2.2.2.2.2.1)
                    have HS7_ := (hb.cell (World.block_lt_of_cell? _ _ (hHeld.2.2.2.2.2.2.2))).trans (hHeld.2.2.2.2.2.2.2)
                    refine ⟨_, rfl, ?_⟩
                    have n0_ := Aside0.mk (Kd.R_elder' (by (with_reducible repeat (first | apply Kd.R_alloc | apply Kd.R_drewN | apply Kd.R_drew)); exact HO128.out) (Kd.R_base ho0) hb)
                    have n1_ := Aside0.mk (Kd.R_below (by (with_reducible repeat (first | apply Kd.R_alloc | apply Kd.R_drewN | apply Kd.R_drew)); exact HL136_4.out) hb)
                    have n2_ := Aside0.mk (Kd.R_lower (Kd.R_new' (Kd.R_new' ho0 (Kd.R_lt (by (with_reducible repeat (first | apply Kd.R_alloc | apply Kd.R_drewN | apply Kd.R_drew)); exact HO128.out))) (Kd.R_lt (by (with_reducible repeat (first | apply Kd.R_alloc | apply Kd.R_drewN | apply Kd.R_drew)); exact HL136_4.out))) (below_size (by repeat (first | (with_reducible first | exact HB.out | apply below_alloc | apply pw_below_drewN | apply below_drew1 | refine below_set ?_ GE124.out) | exact HB.out))))
                    have n3_ := Aside0.mk (blk_below (g := gb124) (o := .cells #[.int .i64 a1_0, .int .i64 a1_1, .int .i64 a1_2] 24 (0, 0)) (by (with_reducible repeat (first | refine blk_drewN ?_ _ | refine blk_drew ?_ | refine blk_alloc ?_ _)); exact BK124.out) hb)
                    have n4_ := Aside0.mk (Kd.C_below (by repeat (first | (with_reducible exact HR136_4.out) | (with_reducible refine Kd.C_alloc ?_ _) | (with_reducible refine Kd.C_drewN ?_ _) | (with_reducible refine Kd.C_drew ?_) | exact HR136_4.out)) hb)
                    have n5_ := Aside0.mk (below_step (by repeat (first | (with_reducible first | exact HB.out | apply below_alloc | apply pw_below_drewN | apply below_drew1 | refine below_set ?_ GE124.out) | exact HB.out)) hb)
                    clear HO128
                    clear HL136_4
                    clear BK124
                    clear HR136_4
                    clear HB
                    have HO128 := n0_
                    have HL136_4 := n1_
                    have HO139 := n2_
                    have BK124 := n3_
                    have HR136_4 := n4_
                    have HB := n5_
                    clear n0_ n1_ n2_ n3_ n4_ n5_
                    (try clear hb)
                    (try clear hb2)
                    (try clear hk)
                    (try clear hi)
                    (try clear ho0)
                    refine hK.out _ _ ⟨(blk_cell BK124.out 0).trans rfl, (blk_cell BK124.out 1).trans rfl, (blk_cell BK124.out 2).trans rfl, HS3_, HS4_, HS5_, HS6_, HS7_⟩ (fun hHeld => ?_)
                    clear hK K
                    refine norm_ (a' := ?_) ?_ ?_
                    rotate_left
                    · show Act.put _ (some 75) _ = _
                      simp only [Act.put, List.setIfInBounds_toArray, List.set_cons_zero, List.set_cons_succ, i64_w, i32_w]
                      rfl
                    refine pure_ (i := 11) (N := some 64) (v := ?_) (a' := ?_) #[true, true, true, true, true, true, true, true, true, true, true, true, false, false, false, false] rfl rfl (any_of HT_.out (by kernel_rfl)) (fun _ _ _ h => h) (Or.inl ⟨by rfl, ?_⟩) ?_ ?_
                    rotate_left
                    · intro w'
                      go_simp
                      with_reducible rfl
                    rotate_left
                    · simp only [Act.put, List.setIfInBounds_toArray, List.set_cons_zero, List.set_cons_succ, i64_w, i32_w]
                      rfl
                    refine pure_ (i := 12) (N := some 76) (v := ?_) (a' := ?_) #[true, true, true, true, true, true, true, true, true, true, true, true, true, false, false, false] rfl rfl (any_of HT_.out (by kernel_rfl)) (fun _ _ _ h => h) (Or.inl ⟨by rfl, ?_⟩) ?_ ?_
                    rotate_left
                    · intro w'
                      go_simp
                      with_reducible rfl
                    rotate_left
                    · simp only [Act.put, List.setIfInBounds_toArray, List.set_cons_zero, List.set_cons_succ, i64_w, i32_w]
                      rfl
                    refine pure_ (i := 13) (N := some 77) (v := ?_) (a' := ?_) #[true, true, true, true, true, true, true, true, true, true, true, true, true, true, false, false] rfl rfl (any_of HT_.out (by kernel_rfl)) (fun _ _ _ h => h) (Or.inl ⟨by rfl, ?_⟩) ?_ ?_
                    rotate_left
                    · intro w'
                      go_simp
                      with_reducible rfl
                    rotate_left
                    · simp only [Act.put, List.setIfInBounds_toArray, List.set_cons_zero, List.set_cons_succ, i64_w, i32_w]
                      rfl
                    refine pure_ (i := 14) (N := some 20) (v := ?_) (a' := ?_) #[true, true, true, true, true, true, true, true, true, true, true, true, true, true, true, false] rfl rfl (any_of HT_.out (by kernel_rfl)) (fun _ _ _ h => h) (Or.inl ⟨by rfl, ?_⟩) ?_ ?_
                    rotate_left
                    · intro w'
                      go_simp
                      with_reducible rfl
                    rotate_left
                    · simp only [Act.put, List.setIfInBounds_toArray, List.set_cons_zero, List.set_cons_succ, i64_w, i32_w]
                      rfl
                    refine pure_ (i := 15) (N := some 21) (v := ?_) (a' := ?_) #[true, true, true, true, true, true, true, true, true, true, true, true, true, true, true, true] rfl rfl (any_of HT_.out (by kernel_rfl)) (fun _ _ _ h => h) (Or.inl ⟨by rfl, ?_⟩) ?_ ?_
                    rotate_left
                    · intro w'
                      go_simp
                      with_reducible rfl
                    rotate_left
                    · simp only [Act.put, List.setIfInBounds_toArray, List.set_cons_zero, List.set_cons_succ, i64_w, i32_w]
                      rfl
                    refine done_ (done_of HT_.out (by kernel_rfl)) ?_
                    try go_wp2_with (first | ((with_reducible refine gate_callee (f := 11) rfl ?_); refine goesL_ (some 79) rfl rfl Try.func11 (by kernel_rfl) rfl #[.int .i64 t133] rfl (by (try simp only [List.map_toArray, List.map_cons, List.map_nil]); first | done | rfl | (simp only [List.length_drop, List.length_take]; rfl)) ?_; (with_reducible refine (waybilllaw23_num.calls t133 t141 _ A17.out).mono ?_); rintro e w' ⟨rfl, ⟨nd, rfl⟩⟩; refine ⟨_, rfl, ?_⟩) | ((with_reducible refine gate_callee (f := 11) rfl ?_); refine goesL_ (some 81) rfl rfl Try.func11 (by kernel_rfl) rfl #[.int .i64 t140] rfl (by (try simp only [List.map_toArray, List.map_cons, List.map_nil]); first | done | rfl | (simp only [List.length_drop, List.length_take]; rfl)) ?_; (with_reducible refine (waybilllaw23_num.calls t140 t142 _ A18.out).mono ?_); rintro e w' ⟨rfl, ⟨nd, rfl⟩⟩; refine ⟨_, rfl, ?_⟩) | (go_at_call 11; (with_reducible refine (waybilllaw23_num.calls t135 t143 _ A21.out).mono ?_); rintro e w' ⟨rfl, ⟨nd, rfl⟩⟩; obtain ⟨Ao36, co36, eo36⟩ := Kd.R_slice HO139.out; subst eo36; have p144 : 0 ≤ (t132 : Int) := of_decide_eq_true (by first | (with_reducible assumption) | assumption); have q144 : t132 < (t137.length : Int) := of_decide_eq_true (by first | (with_reducible assumption) | assumption); obtain ⟨ad144, A144_4, c144_4, e144, hx144_0, hx144_1, hx144_2, hx144_3, hx144_4, hl144_4, hi144_4⟩ := at_T38 (Kd.R_reads' HO139.out).2.2 t132 p144 q144; cases e144; obtain ⟨ce144, hce144, hMe144, hcc144⟩ := Kd.R_get HO139.out z38 t132 p144 (by first | exact q144 | exact of_decide_eq_true (by first | (with_reducible assumption) | assumption) | (have e_ := (Kd.R_reads' HO139.out).1; omega)); obtain ⟨ve144_4, rfl, ge144_4⟩ := k38_openM hMe144; have hv144_4 := hcc144 4 _ rfl; rw [add_field _ _ 4 (by omega)] at hv144_4; replace hv144_4 := Option.some.inj (hv144_4.symm.trans hx144_4); rw [hv144_4] at ge144_4; have HL144_4 := Aside0.mk (show Kd.R k51 51 _ _ _ _ ((rd_T38 t137 t132).f3.f1) from ge144_4); clear hv144_4 ge144_4; clear hcc144 hce144; have HR144_4 := Aside0.mk hi144_4; have HC144_4 := Aside0.mk hl144_4; clear hi144_4 hl144_4; replace p144 := eq_true p144; replace q144 := eq_true q144))
                    go_ret
                    exact ⟨by first | rfl | (simp [errW_none, errW_some] <;> rfl) | (simp [*, errW_none, errW_some] <;> rfl), by repeat (first | (with_reducible first | exact HB.out | apply below_alloc | apply pw_below_drewN | apply below_drew1 | refine below_set ?_ GE124.out) | exact HB.out)⟩
                  · rw [if_neg c24] at H
                    have c24b0 : (((rd_T38 t137 t132).f2) == a3) = false := beq_eq_false_iff_ne.mpr c24
                    have c24b1 : (((rd_T38 t137 t132).f2) != a3) = true := bne_iff_ne.mpr c24
                    obtain rfl := Option.some.inj H
                    cases hrt
                · rw [if_neg c23] at H
                  exact absurd H (by simp)
              · rw [if_neg c22] at H
                have c22b0 : ((t143 == 71) == (a4 != a5)) = false := by simpa using c22
                (try (have c22b1 : decide ((t143 == 71) = (a4 != a5)) = false := by simpa using c22))
                (try (have c22b2 : ((t143 == 71) == (a4 != a5)) = false := by simpa using c22))
                (try (have c22b3 : ¬ ((t143 == 71) = (a4 != a5)) := by simpa using c22))
                clear c22
                obtain rfl := Option.some.inj H
                cases hrt
            · rw [if_neg c20] at H
              have c20b0 : (t132 == (l0.length : Int)) = false := beq_eq_false_iff_ne.mpr c20
              have c20b1 : (t132 != (l0.length : Int)) = true := bne_iff_ne.mpr c20
              obtain rfl := Option.some.inj H
              cases hrt
          · rw [if_neg c19] at H
            have c19b0 : ((wrap64 (t141 + t142)) == 0) = false := beq_eq_false_iff_ne.mpr c19
            have c19b1 : ((wrap64 (t141 + t142)) != 0) = true := bne_iff_ne.mpr c19
            obtain rfl := Option.some.inj H
            cases hrt
        · rw [if_neg c15] at H
          exact absurd H (by simp)
      · rw [if_neg c14] at H
        exact absurd H (by simp)
    · rw [if_neg c11] at H
      have c11b0 : (t131 == 0) = false := beq_eq_false_iff_ne.mpr c11
      have c11b1 : (t131 != 0) = true := bne_iff_ne.mpr c11
      by_cases c37 : (t126.length : Int) = 0
      · rw [if_pos c37] at H
        have c37b0 : ((t126.length : Int) == 0) = true := beq_iff_eq.mpr c37
        have c37b1 : ((t126.length : Int) != 0) = false := bne_eq_false_iff_eq.mpr c37
        clear c37
        obtain rfl := Option.some.inj H
        simp only [Option.some.injEq, Prod.mk.injEq] at H
        obtain ⟨rfl⟩ := H
        go_enter Try.func3, Try.ntmps3
        go_wp2_with (first | ((with_reducible refine gate_dst (N := 7) rfl ?_); (try (refine gate_guard (by rfl) ?_; dsimp only)); refine box_event ?hg (N := 7) ?hd (cs := #[.int .i64 a1_0, .int .i64 a1_1, .int .i64 a1_2]) (t := 24) ?hr ?_; (case hd => rfl); (case hg => rfl); (case hr => first | (go_simp; done) | (go_simp; rfl)); intro gb124 hg w38 hbox hb; have n0_ := Aside0.mk (below_step (by repeat (first | (with_reducible first | exact HB.out | apply below_alloc | apply pw_below_drewN | apply below_drew1) | exact HB.out)) hb); have n1_ := Aside0.mk (hbox); have n2_ := Aside0.mk ((by rw [hg]; exact (below_size (by repeat (first | (with_reducible first | exact HB.out | apply below_alloc | apply pw_below_drewN | apply below_drew1) | exact HB.out))) : w.heap.size ≤ gb124)); have n3_ := Aside0.mk ((by rw [hg]; exact (below_size (by repeat (first | (with_reducible first | exact HB.out | apply below_alloc | apply pw_below_drewN | apply below_drew1) | exact HB.out))) : w.heap.size ≤ gb124)); clear HB; have HB := n0_; have BK124 := n1_; have GW124 := n2_; have GE124 := n3_; clear n0_ n1_ n2_ n3_; clear hb hbox hg) | ((with_reducible refine gate_callee (f := 9) rfl ?_); refine goesL_ (some 22) rfl rfl Try.func9 (by kernel_rfl) rfl #[] rfl (by (try simp only [List.map_toArray, List.map_cons, List.map_nil]); first | done | rfl | (simp only [List.length_drop, List.length_take]; rfl)) ?_; (with_reducible refine (waybilllaw23_alive.calls  true _ A7.out).mono ?_); rintro e w39 ⟨rfl, hb⟩; refine ⟨_, rfl, ?_⟩; have n0_ := Aside0.mk (blk_below (g := gb124) (o := .cells #[.int .i64 a1_0, .int .i64 a1_1, .int .i64 a1_2] 24 (0, 0)) (by (with_reducible repeat (first | refine blk_drewN ?_ _ | refine blk_drew ?_ | refine blk_alloc ?_ _)); exact BK124.out) hb); have n1_ := Aside0.mk (below_step (by repeat (first | (with_reducible first | exact HB.out | apply below_alloc | apply pw_below_drewN | apply below_drew1 | refine below_set ?_ GE124.out) | exact HB.out)) hb); clear BK124; clear HB; have BK124 := n0_; have HB := n1_; clear n0_ n1_; (try clear hb); (try clear hb2); (try clear hk); (try clear hi); have hcz40_0 : w39.cell? ⟨gb124, 0, none⟩ = some (.int .i64 a1_0) := (blk_cell BK124.out 0).trans rfl; have hcz40_1 : w39.cell? ⟨gb124, 1, none⟩ = some (.int .i64 a1_1) := (blk_cell BK124.out 1).trans rfl; have hcz40_2 : w39.cell? ⟨gb124, 2, none⟩ = some (.int .i64 a1_2) := (blk_cell BK124.out 2).trans rfl; have hfz40_0 := blk_frozen BK124.out 0; have hfz40_1 := blk_frozen BK124.out 1; have hfz40_2 := blk_frozen BK124.out 2) | ((with_reducible refine gate_callee (f := 10) rfl ?_); refine goesL_ (some 30) rfl rfl Try.func10 (by kernel_rfl) rfl #[.slice A0 l0.length c0, .agg #[.int .i64 a1_0, .int .i64 a1_1, .int .i64 a1_2], .int .i64 a2, .int .i64 a3, .int .i64 a4] rfl (by (try simp only [List.map_toArray, List.map_cons, List.map_nil]); first | done | rfl | (simp only [List.length_drop, List.length_take]; rfl)) ?_; (with_reducible refine (session_Open.calls _ _ l0 a1_0 a1_1 a1_2 a2 a3 a4 t126 t129 t130 _ ?side1 ?side2 A9.out).mono ?_); (case side1 => repeat (first | exact (Kd.C_below HR0.out HB.out) | (with_reducible refine Kd.C_alloc ?_ _) | (with_reducible refine Kd.C_drewN ?_ _) | (with_reducible refine Kd.C_drew ?_))); (case side2 => exact HC0.out); rintro e w41 ⟨v127, rfl, ho0, hb⟩; refine ⟨_, rfl, ?_⟩; have n0_ := Aside0.mk (Kd.R_lower ho0 (below_size (by repeat (first | (with_reducible first | exact HB.out | apply below_alloc | apply pw_below_drewN | apply below_drew1 | refine below_set ?_ GE124.out) | exact HB.out)))); have n1_ := Aside0.mk (blk_below (g := gb124) (o := .cells #[.int .i64 a1_0, .int .i64 a1_1, .int .i64 a1_2] 24 (0, 0)) (by (with_reducible repeat (first | refine blk_drewN ?_ _ | refine blk_drew ?_ | refine blk_alloc ?_ _)); exact BK124.out) hb); have n2_ := Aside0.mk (below_step (by repeat (first | (with_reducible first | exact HB.out | apply below_alloc | apply pw_below_drewN | apply below_drew1 | refine below_set ?_ GE124.out) | exact HB.out)) hb); clear BK124; clear HB; have HO128 := n0_; have BK124 := n1_; have HB := n2_; clear n0_ n1_ n2_; (try clear hb); (try clear hb2); (try clear hk); (try clear hi); (try clear ho0)) | ((with_reducible refine gate_callee (f := 11) rfl ?_); refine goesL_ (some 35) rfl rfl Try.func11 (by kernel_rfl) rfl #[.int .i64 t130] rfl (by (try simp only [List.map_toArray, List.map_cons, List.map_nil]); first | done | rfl | (simp only [List.length_drop, List.length_take]; rfl)) ?_; (with_reducible refine (waybilllaw23_num.calls t130 t131 _ A10.out).mono ?_); rintro e w' ⟨rfl, ⟨nd, rfl⟩⟩; refine ⟨_, rfl, ?_⟩; obtain ⟨Ao42, co42, eo42⟩ := Kd.R_slice HO128.out; subst eo42))
        go_ret
        exact ⟨by first | rfl | (simp [errW_none, errW_some] <;> rfl) | (simp [*, errW_none, errW_some] <;> rfl), by repeat (first | (with_reducible first | exact HB.out | apply below_alloc | apply pw_below_drewN | apply below_drew1 | refine below_set ?_ GE124.out) | exact HB.out)⟩
      · rw [if_neg c37] at H
        have c37b0 : ((t126.length : Int) == 0) = false := beq_eq_false_iff_ne.mpr c37
        have c37b1 : ((t126.length : Int) != 0) = true := bne_iff_ne.mpr c37
        have c37b2 : ¬ (t126 = []) := fun h_ => c37 (by rw [h_]; rfl)
        obtain rfl := Option.some.inj H
        cases hrt
  · replace c8 := Bool.eq_false_iff.mpr c8
    subst c8
    have H1 : (some false) = some r := by rw [if_neg (show ¬ (false = true) by decide)] at H; exact H
    clear H
    have H := H1
    clear H1
    obtain rfl := Option.some.inj H
    cases hrt
end Go.Proofs.Ythfjgfldmkdlnaa.G
end
