/- MessageTellsUpto: texts of this claim, packed: what the kit's print has written for it and own texts, without what its proof does not reach. -/
import Derived.Test.YtkddlhcpplkpbaaKMessageTellsUpto15
import Derived.Test.YtkddlhcpplkpbaaKMessageTellsUpto24
set_option linter.unusedVariables false
set_option linter.unusedSimpArgs false
set_option linter.unusedSectionVars false
section
namespace Go.Proofs.Ytkddlhcpplkpbaa.G
open WB Go.RowKit Go.Proofs.YtkddlhcpplkpbaaW.PrintWords Go.Proofs.YtkddlhcpplkpbaaW.PrintLast Go.Proofs.YtkddlhcpplkpbaaW.PrintMore
attribute [local go_sem] max2_int min2_int max_two min_two max_three min_three max_four min_four   -- for this text's walks alone
def waybillref01_Get.f (l0 : List Int) (a1 : Int) : Option (Int × Int × Int) := if octetsOk l0 = true then some (getAt l0 a1) else none
set_option maxHeartbeats 2000000 in
set_option maxRecDepth 100000 in
theorem waybillref01_Get.calls (A0 : Option Addr) (c0 : Nat) (l0 : List Int) (a1 : Int) (r1 : Int) (r2 : Int) (r3 : Int) (w : World) (hr0 : Kd.C (Kd.int .u8) w A0 l0.length l0) (hc0 : l0.length ≤ c0) (h : waybillref01_Get.f l0 a1 = some (r1, r2, r3)) :
   Calls Try.prog 39 #[.slice A0 l0.length c0, .int .i64 a1] w fun e w' => e = .returned (.tuple #[.int .u64 r1, .int .i64 r2, .int .i64 r3]) ∧ Drawn0 w w' := by
 unfold waybillref01_Get.f at h
 split at h
 case isFalse => cases h
 case isTrue wf =>
 have hget := Option.some.inj h
 clear h
 by_cases hneg : a1 < 0
 · have e : getAt l0 a1 = (0, 0, 4) := by unfold getAt; rw [if_pos (Or.inl hneg)]
   rw [e] at hget
   obtain ⟨rfl, rfl, rfl⟩ : 0 = r1 ∧ 0 = r2 ∧ 4 = r3 := by simpa using hget
   have b0 : decide (a1 < 0) = true := decide_eq_true hneg
   clear hr0 hc0 hget e hneg wf
   go_enter Try.func39, Try.ntmps39
   go_wp2
   go_ret3
   exact ⟨rfl, Drawn0.refl _⟩
 by_cases hbig : (l0.length : Int) < a1
 · have e : getAt l0 a1 = (0, 0, 4) := by unfold getAt; rw [if_pos (Or.inr hbig)]
   rw [e] at hget
   obtain ⟨rfl, rfl, rfl⟩ : 0 = r1 ∧ 0 = r2 ∧ 4 = r3 := by simpa using hget
   have b0 : decide (a1 < 0) = false := decide_eq_false hneg
   have b1 : decide ((l0.length : Int) < a1) = true := decide_eq_true hbig
   clear hr0 hc0 hget e hneg wf hbig
   go_enter Try.func39, Try.ntmps39
   go_wp2
   go_ret3
   exact ⟨rfl, Drawn0.refl _⟩
 obtain ⟨n, rfl⟩ := Int.eq_ofNat_of_zero_le (Int.not_lt.mp hneg)
 have hn : n ≤ l0.length := by omega
 have HG : Aside0 ((match getB (l0.drop n) 0 0 with | (q, m, 0) => (q, (n : Int) + m, 0) | (_, _, e) => (0, 0, e)) = (r1, r2, r3)) := ⟨by
   rw [← hget]; unfold getAt; rw [if_neg (by omega)]; rfl⟩
 have hlen0 : l0.length ≤ 9223372036854775807 := hr0.2.1
 have HR := Aside0.mk hr0
 have HW := Aside0.mk wf
 have b0 : decide ((n : Int) < 0) = false := decide_eq_false hneg
 have b1 : decide (l0.length < n) = false := decide_eq_false (by omega)
 clear hr0 hc0 hget hneg wf hbig
 go_enter Try.func39, Try.ntmps39
 go_wp2
 go_loop [1, 7, 8, 9] (fun v1 v7 v8 v9 => ∃ (i : Nat) (acc : Int), v1 = .int .i64 ((n : Int) + i) ∧ v7 = .int .u64 acc ∧ v8 = .int .u64 (128 ^ i) ∧ v9 = .int .i64 i ∧ i ≤ 9 ∧ Aside0 (n + i ≤ l0.length) ∧ 0 ≤ acc ∧ Aside0 (acc < 128 ^ i) ∧ Aside0 (getB (l0.drop n) 0 0 = getB (l0.drop (n + i)) i acc)) (fun _ _ _ v9 => 10 - (intOf v9).toNat)
 case atStart => exact ⟨0, 0, by simp, rfl, rfl, rfl, by omega, ⟨by omega⟩, by omega, ⟨by simp⟩, ⟨by simp⟩⟩
 case round =>
   obtain ⟨i, acc, rfl, rfl, rfl, rfl, hi, HI, hacc, HA, HB⟩ := hrel
   by_cases hlt : n + i < l0.length
   · obtain ⟨ad, e1, hcell⟩ := Kd.at_int HR.out ((n : Int) + i) (by omega) (by omega)
     rw [show ((n : Int) + i).toNat = n + i by omega] at hcell
     have hw := octetsOk_get HW.out (n + i)
     have hrd : rd l0 ((n : Int) + i) = l0.getD (n + i) 0 := by simp [rd, show ((n : Int) + i).toNat = n + i by omega]
     rw [hrd] at hcell
     obtain ⟨c, hc⟩ : ∃ c, c = l0.getD (n + i) 0 := ⟨_, rfl⟩
     rw [← hc] at hcell hw
     have HD : Aside0 (l0.drop (n + i) = c :: l0.drop (n + i + 1)) := ⟨by
       rw [List.drop_eq_getElem_cons hlt, hc, List.getD_eq_getElem?_getD, List.getElem?_eq_getElem hlt]; rfl⟩
     have h0 : 0 ≤ c := hw.1
     have h1 : c < 256 := hw.2
     clear hw hrd hc
     have b2 : ((n : Int) + i == l0.length) = false := by rw [beq_eq_false_iff_ne]; omega
     have b3 : ((i : Int) == 10) = false := by rw [beq_eq_false_iff_ne]; omega
     have hnat : ((n : Int) + i).toNat = n + i := by omega
     subst e1
     have HJ := fun h9 => Aside0.mk (add_join_ i acc (c % 128) hacc HA.out (by omega) (by omega) hi h9)
     have HN : Aside0 (getB (l0.drop (n + i)) i acc = if c < 128 ∧ (0 < c ∨ i = 0) ∧ (i < 9 ∨ c = 1) then (acc + c * 128 ^ i, i + 1, 0) else if c < 128 ∨ i = 9 then (0, 0, 21) else getB (l0.drop (n + i + 1)) (i + 1) (acc + (c % 128) * 128 ^ i)) := ⟨by rw [HD.out]; rfl⟩
     by_cases hS : c < 128 ∧ (0 < c ∨ i = 0) ∧ (i < 9 ∨ c = 1)
     · have hJ := (HJ (by omega)).out
       have HE : Aside0 ((acc + c % 128 * 128 ^ i, (n : Int) + i + 1, 0) = (r1, r2, r3)) := ⟨by
         have := HG.out
         rw [HB.out, HN.out, if_pos hS] at this
         simp only at this
         rw [← this, show c % 128 = c by omega]
         rw [show (n : Int) + ((i + 1 : Nat) : Int) = n + i + 1 by omega]⟩
       have HJ' := Aside0.mk hJ
       clear hJ HJ HN HB HG HD
       obtain ⟨hS1, hS2, hS3⟩ := hS
       go_wp2
       all_goals first | (exfalso; omega) | (exfalso; simp only [beq_eq_false_iff_ne, ne_eq, beq_iff_eq, Bool.not_eq_false', Bool.not_eq_true', decide_eq_true_eq, decide_eq_false_iff_not] at *; omega) | skip
       all_goals
         have hE := HE.out
         simp only [Prod.mk.injEq] at hE
         obtain ⟨e1, e2, e3⟩ := hE
         subst e1 e2 e3
         go_ret3
         exact ⟨by first | (simp [HJ'.out.1]; done) | (simp [HJ'.out.1]; omega) | (have hz := HJ'.out.1; rw [show c % 128 = 0 by omega] at hz ⊢; have w0 : IntKind.u64.wrap 0 = 0 := (by rfl); simpa [w0] using hz), Drawn0.refl _⟩
     · by_cases hE : c < 128 ∨ i = 9
       · have HE : Aside0 ((0, 0, 21) = (r1, r2, r3)) := ⟨by
          have := HG.out
          rw [HB.out, HN.out, if_neg hS, if_pos hE] at this
          simpa using this⟩
         clear HJ HN HB HG HD
         go_wp2
         all_goals first | (exfalso; omega) | (exfalso; simp only [beq_eq_false_iff_ne, ne_eq, beq_iff_eq, Bool.not_eq_false', Bool.not_eq_true', decide_eq_true_eq, decide_eq_false_iff_not] at *; omega) | skip
         all_goals
          have hE := HE.out
          simp only [Prod.mk.injEq] at hE
          obtain ⟨e1, e2, e3⟩ := hE
          subst e1 e2 e3
          go_ret3
          exact ⟨rfl, Drawn0.refl _⟩
       · have hJ := (HJ (by omega)).out
         have HE : Aside0 (getB (l0.drop n) 0 0 = getB (l0.drop (n + (i + 1))) (i + 1) (acc + c % 128 * 128 ^ i)) := ⟨by rw [HB.out, HN.out, if_neg hS, if_neg hE]; rfl⟩
         have HJ' := Aside0.mk hJ
         clear hJ HJ HN HB HD
         have hi9 : i < 9 := by omega
         have hc128 : 128 ≤ c := by omega
         clear hS hE
         go_wp2
         go_round
         case rel => exact ⟨i + 1, acc + c % 128 * 128 ^ i, by go_num, by rw [HJ'.out.1], by rw [HJ'.out.2.2.2 hi9], by go_num, by omega, ⟨by omega⟩, HJ'.out.2.2.1, ⟨HJ'.out.2.1 hi9⟩, HE⟩
         case measure => simp [intOf]; omega
   · have b2 : ((n : Int) + i == l0.length) = true := by rw [beq_iff_eq]; have := HI.out; omega
     have b3 : ((i : Int) == 10) = false := by rw [beq_eq_false_iff_ne]; omega
     have HE : Aside0 ((0, 0, 8) = (r1, r2, r3)) := ⟨by
       have := HG.out
       rw [HB.out, List.drop_of_length_le (by omega)] at this
       simpa [getB] using this⟩
     clear HB HG
     go_wp2
     have hE := HE.out
     simp only [Prod.mk.injEq] at hE
     obtain ⟨e1, e2, e3⟩ := hE
     subst e1 e2 e3
     go_ret3
     exact ⟨rfl, Drawn0.refl _⟩
end Go.Proofs.Ytkddlhcpplkpbaa.G
end
section
namespace Go.Proofs.Ytkddlhcpplkpbaa.G
open WB Go.RowKit Go.Proofs.YtkddlhcpplkpbaaW.PrintWords Go.Proofs.YtkddlhcpplkpbaaW.PrintLast Go.Proofs.YtkddlhcpplkpbaaW.PrintMore
attribute [local go_sem] max2_int min2_int max_two min_two max_three min_three max_four min_four   -- for this text's walks alone
def waybillref01_Text.j0 : Nat → List Int → Int → Int → Bool → Option (List Int × Int × Int)
 | 0, _, _, _, _ => none
 | k + 1, x0, x9, x10, x23 => if x23 = true then (some (([] : List Int), 0, 5)) else (if x9 > (IntKind.u64.wrap (wrap64 ((x0.length : Int) - x10))) then (some (([] : List Int), 0, 8)) else (if 0 ≤ x10 then (if x10 ≤ (wrap64 (x10 + (wrap64 (x9)))) then (if (wrap64 (x10 + (wrap64 (x9)))) ≤ (x0.length : Int) then ((waybillref01_Copied.f ((x0.take ((wrap64 (x10 + (wrap64 (x9)))) : Int).toNat).drop (x10 : Int).toNat)).bind fun t186 => (some (t186, wrap64 (x10 + (wrap64 (x9))), 0))) else (none)) else (none)) else (none)))
def waybillref01_Text.f (k : Nat) (l0 : List Int) (a1 : Int) (a2 : Int) : Option (List Int × Int × Int) := (waybillref01_Get.f l0 a1).bind fun bt182 => (if bt182.2.2 = 0 then (if a2 < 0 then (waybillref01_Text.j0 k l0 bt182.1 bt182.2.1 true) else (waybillref01_Text.j0 k l0 bt182.1 bt182.2.1 (decide (bt182.1 > (IntKind.u64.wrap (a2)))))) else (some (([] : List Int), 0, bt182.2.2)))
set_option maxHeartbeats 8000000 in
set_option maxRecDepth 100000 in
theorem waybillref01_Text.calls (k : Nat) (A0 : Option Addr) (c0 : Nat) (l0 : List Int) (a1 : Int) (a2 : Int) (r1 : List Int) (r2 : Int) (r3 : Int) (w : World) (hr0 : Kd.C (Kd.int .u8) w A0 l0.length l0) (hc0 : l0.length ≤ c0) (h : waybillref01_Text.f k l0 a1 a2 = some (r1, r2, r3)) :
   Calls Try.prog 41 #[.slice A0 l0.length c0, .int .i64 a1, .int .i64 a2] w fun e w' => ∃ v0_ : Value, e = .returned (.tuple #[v0_, .int .i64 r2, .int .i64 r3]) ∧ Kd.R (Kd.int .u8) 5 w' w.heap.size (fun _ => True) v0_ r1 ∧ Below w.heap.size w w' := by
 have HR0 := Aside0.mk hr0
 have HC0 := Aside0.mk hc0
 clear hr0 hc0
 have HB := Aside0.mk (Below.refl w.heap.size w)
 have H : ((waybillref01_Get.f l0 a1).bind fun bt182 => (if bt182.2.2 = 0 then (if a2 < 0 then (waybillref01_Text.j0 k l0 bt182.1 bt182.2.1 true) else (waybillref01_Text.j0 k l0 bt182.1 bt182.2.1 (decide (bt182.1 > (IntKind.u64.wrap (a2)))))) else (some (([] : List Int), 0, bt182.2.2)))) = some (r1, r2, r3) := h
 clear h
 replace H := Option.bind_eq_some_iff.mp H
 obtain ⟨⟨t182, t183, t184⟩, A40, H⟩ := H
 replace H : (if t184 = 0 then (if a2 < 0 then (waybillref01_Text.j0 k l0 t182 t183 true) else (waybillref01_Text.j0 k l0 t182 t183 (decide (t182 > (IntKind.u64.wrap (a2)))))) else (some (([] : List Int), 0, t184))) = some (r1, r2, r3) := H
 have A4 := Aside0.mk A40
 clear A40
 by_cases c5 : t184 = 0
 · rw [if_pos c5] at H
   have c5b0 : (t184 == 0) = true := beq_iff_eq.mpr c5
   have c5b1 : (t184 != 0) = false := bne_eq_false_iff_eq.mpr c5
   clear c5
   have HC6 := Aside0.mk H
   clear H
   go_enter Try.func41, Try.ntmps41
   go_upto_region 4 with (first | ((with_reducible refine gate_callee (f := 39) rfl ?_); refine goesL_ (some 15) rfl rfl Try.func39 (by kernel_rfl) rfl #[.slice A0 l0.length c0, .int .i64 a1] rfl (by (try simp only [List.map_toArray, List.map_cons, List.map_nil]); first | done | rfl | (simp only [List.length_drop, List.length_take]; rfl)) ?_; (with_reducible refine (waybillref01_Get.calls _ _ l0 a1 t182 t183 t184 _ ?side1 ?side2 A4.out).mono ?_); (case side1 => repeat (first | exact HR0.out | (with_reducible refine Kd.C_alloc ?_ _) | (with_reducible refine Kd.C_drewN ?_ _) | (with_reducible refine Kd.C_drew ?_))); (case side2 => exact HC0.out); rintro e w' ⟨rfl, ⟨nd, rfl⟩⟩; refine ⟨_, rfl, ?_⟩))
   (try simp only [Act.put, List.setIfInBounds_toArray, List.set_cons_zero, List.set_cons_succ])
   go_cut [23] (fun v23 wc => ∃ (kq : Nat) (x23_5 : Bool), v23 = .bool x23_5 ∧ Aside0 (waybillref01_Text.j0 kq l0 t182 t183 x23_5 = some (r1, r2, r3)) ∧ Aside0 (kq ≤ k) ∧ Aside0 (Below w.heap.size w wc))
   case first =>
    have H := HC6.out
    clear HC6
    by_cases c7 : a2 < 0
    · rw [if_pos c7] at H
      have c7b0 : decide (a2 < 0) = true := decide_eq_true c7
      clear c7
      (first | rw [c7b0] | (simp only [i64_w, i32_w]; rw [c7b0]) | skip)
      have H' := Aside0.mk H
      clear H
      go_wp2
      go_meet
      case rel => exact ⟨_, (true), (by first | rfl | (simp; done) | (simp [*]; done)), H', ⟨by first | omega | exact Nat.le_refl _⟩, ⟨by repeat (first | (with_reducible first | exact HB.out | apply below_alloc | apply pw_below_drewN | apply below_drew1) | exact HB.out)⟩⟩
    · rw [if_neg c7] at H
      have c7b0 : decide (a2 < 0) = false := decide_eq_false c7
      clear c7
      (first | rw [c7b0] | (simp only [i64_w, i32_w]; rw [c7b0]) | skip)
      have H' := Aside0.mk H
      clear H
      go_wp2
      go_meet
      case rel => exact ⟨_, (decide (t182 > (IntKind.u64.wrap (a2)))), (by first | rfl | (simp; done) | (simp [*]; done)), H', ⟨by first | omega | exact Nat.le_refl _⟩, ⟨by repeat (first | (with_reducible first | exact HB.out | apply below_alloc | apply pw_below_drewN | apply below_drew1) | exact HB.out)⟩⟩
   case rest =>
    clear HC6
    try clear p2
    try clear c3
    try clear c4
    try clear c5
    try clear c5b0
    try clear c5b1
    try clear c7
    try clear c7b0
    obtain ⟨kq, x23_5, rfl, HA, HJ5, HB⟩ := hcut
    cases kq with
    | zero => exact absurd HA.out (by simp [waybillref01_Text.j0])
    | succ kj5 =>
      have H := HA.out
      clear HA
      simp only [waybillref01_Text.j0] at H
      by_cases c8 : x23_5 = true
      · subst c8
        have H1 : (some (([] : List Int), 0, 5)) = some (r1, r2, r3) := by rw [if_pos rfl] at H; exact H
        clear H
        have H := H1
        clear H1
        simp only [Option.some.injEq, Prod.mk.injEq] at H
        obtain ⟨rfl, rfl, rfl⟩ := H
        go_wp2
        go_ret3
        exact ⟨_, by first | rfl | (simp [errW_none, errW_some] <;> rfl) | (simp [*, errW_none, errW_some] <;> rfl), by first | exact Kd.R_nil _ _ _ _ _ | exact Kd.N_nil _ _ _ _ _ | exact Kd.V_nil _ _ _ _ _ | exact Kd.Q_nil _ _ _ _ _ | exact Kd.S_nil _ _ _ _ _, by repeat (first | (with_reducible first | exact HB.out | apply below_alloc | apply pw_below_drewN | apply below_drew1) | exact HB.out)⟩
      · replace c8 := Bool.eq_false_iff.mpr c8
        subst c8
        have H1 : (if t182 > (IntKind.u64.wrap (wrap64 ((l0.length : Int) - t183))) then (some (([] : List Int), 0, 8)) else (if 0 ≤ t183 then (if t183 ≤ (wrap64 (t183 + (wrap64 (t182)))) then (if (wrap64 (t183 + (wrap64 (t182)))) ≤ (l0.length : Int) then ((waybillref01_Copied.f ((l0.take ((wrap64 (t183 + (wrap64 (t182)))) : Int).toNat).drop (t183 : Int).toNat)).bind fun t186 => (some (t186, wrap64 (t183 + (wrap64 (t182))), 0))) else (none)) else (none)) else (none))) = some (r1, r2, r3) := by rw [if_neg (show ¬ (false = true) by decide)] at H; exact H
        clear H
        have H := H1
        clear H1
        by_cases c9 : t182 > (IntKind.u64.wrap (wrap64 ((l0.length : Int) - t183)))
        · rw [if_pos c9] at H
          have c9b0 : decide ((IntKind.u64.wrap (wrap64 ((l0.length : Int) - t183))) < t182) = true := decide_eq_true c9
          clear c9
          simp only [Option.some.injEq, Prod.mk.injEq] at H
          obtain ⟨rfl, rfl, rfl⟩ := H
          go_wp2
          go_ret3
          exact ⟨_, by first | rfl | (simp [errW_none, errW_some] <;> rfl) | (simp [*, errW_none, errW_some] <;> rfl), by first | exact Kd.R_nil _ _ _ _ _ | exact Kd.N_nil _ _ _ _ _ | exact Kd.V_nil _ _ _ _ _ | exact Kd.Q_nil _ _ _ _ _ | exact Kd.S_nil _ _ _ _ _, by repeat (first | (with_reducible first | exact HB.out | apply below_alloc | apply pw_below_drewN | apply below_drew1) | exact HB.out)⟩
        · rw [if_neg c9] at H
          have c9b0 : decide ((IntKind.u64.wrap (wrap64 ((l0.length : Int) - t183))) < t182) = false := decide_eq_false c9
          clear c9
          by_cases c10 : 0 ≤ t183
          · rw [if_pos c10] at H
            have c10b0 := eq_true c10
            have c10b1 : decide (0 ≤ t183) = true := decide_eq_true c10
            clear c10
            by_cases c11 : t183 ≤ (wrap64 (t183 + (wrap64 (t182))))
            · rw [if_pos c11] at H
              have c11b0 := eq_true c11
              have c11b1 : decide (t183 ≤ (wrap64 (t183 + (wrap64 (t182))))) = true := decide_eq_true c11
              by_cases c12 : (wrap64 (t183 + (wrap64 (t182)))) ≤ (l0.length : Int)
              · rw [if_pos c12] at H
                have c12b0 := eq_true c12
                have c12b1 : decide ((wrap64 (t183 + (wrap64 (t182)))) ≤ (l0.length : Int)) = true := decide_eq_true c12
                replace H := Option.bind_eq_some_iff.mp H
                obtain ⟨t186, A130, H⟩ := H
                replace H : (some (t186, wrap64 (t183 + (wrap64 (t182))), 0)) = some (r1, r2, r3) := H
                have A13 := Aside0.mk A130
                clear A130
                simp only [Option.some.injEq, Prod.mk.injEq] at H
                obtain ⟨rfl, rfl, rfl⟩ := H
                obtain ⟨i014, hi014, _, hsz14, _⟩ := info_parts info5
                obtain ⟨A14, hcut14, hA14, hC14⟩ := print_mid_of (P := Try.prog) (Value.int .u8) 0 22 5 .i64 .i64 Try.underlying22 hi014 hsz14 A0 c0 l0 t183 (wrap64 (t183 + (wrap64 (t182)))) (of_decide_eq_true (by assumption)) (by first | omega | exact of_decide_eq_true (by assumption)) (of_decide_eq_true (by assumption)) HC0.out
                have HR185 := Aside0.mk (Kd.C_of_reads (h1 := fun _ => rfl) (hA14 _ (Kd.reads_of_C HR0.out)))
                have HC185 := Aside0.mk hC14
                clear hA14 hC14 hi014 hsz14
                go_wp2_with (first | ((with_reducible refine gate_callee (f := 61) rfl ?_); refine goesL_ (some 47) rfl rfl Try.func61 (by kernel_rfl) rfl #[.slice A14 ((l0.take ((wrap64 (t183 + (wrap64 (t182)))) : Int).toNat).drop (t183 : Int).toNat).length (c0 - t183.toNat)] rfl (by (try simp only [List.map_toArray, List.map_cons, List.map_nil]); first | done | (rw [show ((l0.take ((wrap64 (t183 + (wrap64 (t182)))) : Int).toNat).drop (t183 : Int).toNat).length = ((wrap64 (t183 + (wrap64 (t182)))).toNat - t183.toNat) from (by rw [List.length_drop, List.length_take]; have h_ : ((wrap64 (t183 + (wrap64 (t182)))) : Int) ≤ (l0.length : Int) := of_decide_eq_true (by assumption); omega)] <;> rfl) | rfl | (simp only [List.length_drop, List.length_take]; rfl)) ?_; (with_reducible refine (waybillref01_Copied.calls _ _ ((l0.take ((wrap64 (t183 + (wrap64 (t182)))) : Int).toNat).drop (t183 : Int).toNat) t186 _ ?side1 ?side2 A13.out).mono ?_); (case side1 => repeat (first | exact (Kd.C_below HR185.out HB.out) | (with_reducible refine Kd.C_alloc ?_ _) | (with_reducible refine Kd.C_drewN ?_ _) | (with_reducible refine Kd.C_drew ?_))); (case side2 => exact HC185.out); rintro e w15 ⟨v187, rfl, ho0, hb⟩; refine ⟨_, rfl, ?_⟩; have n0_ := Aside0.mk (Kd.R_lower ho0 (below_size (by repeat (first | (with_reducible first | exact HB.out | apply below_alloc | apply pw_below_drewN | apply below_drew1) | exact HB.out)))); have n1_ := Aside0.mk (below_step (by repeat (first | (with_reducible first | exact HB.out | apply below_alloc | apply pw_below_drewN | apply below_drew1) | exact HB.out)) hb); clear HB; have HO188 := n0_; have HB := n1_; clear n0_ n1_; (try clear hb); (try clear hb2); (try clear hk); (try clear hi); (try clear ho0)))
                go_ret3
                exact ⟨_, by first | rfl | (simp [errW_none, errW_some] <;> rfl) | (simp [*, errW_none, errW_some] <;> rfl), by (with_reducible repeat (first | apply Kd.R_alloc | apply Kd.R_drewN | apply Kd.R_drew)); exact HO188.out, by repeat (first | (with_reducible first | exact HB.out | apply below_alloc | apply pw_below_drewN | apply below_drew1) | exact HB.out)⟩
              · rw [if_neg c12] at H
                exact absurd H (by simp)
            · rw [if_neg c11] at H
              exact absurd H (by simp)
          · rw [if_neg c10] at H
            exact absurd H (by simp)
 · rw [if_neg c5] at H
   have c5b0 : (t184 == 0) = false := beq_eq_false_iff_ne.mpr c5
   have c5b1 : (t184 != 0) = true := bne_iff_ne.mpr c5
   simp only [Option.some.injEq, Prod.mk.injEq] at H
   obtain ⟨rfl, rfl, rfl⟩ := H
   go_enter Try.func41, Try.ntmps41
   go_wp2_with (first | ((with_reducible refine gate_callee (f := 39) rfl ?_); refine goesL_ (some 15) rfl rfl Try.func39 (by kernel_rfl) rfl #[.slice A0 l0.length c0, .int .i64 a1] rfl (by (try simp only [List.map_toArray, List.map_cons, List.map_nil]); first | done | rfl | (simp only [List.length_drop, List.length_take]; rfl)) ?_; (with_reducible refine (waybillref01_Get.calls _ _ l0 a1 t182 t183 t184 _ ?side1 ?side2 A4.out).mono ?_); (case side1 => repeat (first | exact HR0.out | (with_reducible refine Kd.C_alloc ?_ _) | (with_reducible refine Kd.C_drewN ?_ _) | (with_reducible refine Kd.C_drew ?_))); (case side2 => exact HC0.out); rintro e w' ⟨rfl, ⟨nd, rfl⟩⟩; refine ⟨_, rfl, ?_⟩))
   go_ret3
   exact ⟨_, by first | rfl | (simp [errW_none, errW_some] <;> rfl) | (simp [*, errW_none, errW_some] <;> rfl), by first | exact Kd.R_nil _ _ _ _ _ | exact Kd.N_nil _ _ _ _ _ | exact Kd.V_nil _ _ _ _ _ | exact Kd.Q_nil _ _ _ _ _ | exact Kd.S_nil _ _ _ _ _, by repeat (first | (with_reducible first | exact HB.out | apply below_alloc | apply pw_below_drewN | apply below_drew1) | exact HB.out)⟩
end Go.Proofs.Ytkddlhcpplkpbaa.G
end
