/- FrameBack: texts of this claim, packed: what the kit's print has written for it and own texts, without what its proof does not reach. -/
import Derived.Test.YtmbaooocjoaehaaKFrameBack9
import Derived.Test.YtmbaooocjoaehaaKFrameBack10
import Derived.Test.YtmbaooocjoaehaaKFrameBack11
import Derived.Test.YtmbaooocjoaehaaKFrameBack13
set_option linter.unusedVariables false
set_option linter.unusedSimpArgs false
set_option linter.unusedSectionVars false
section
namespace Go.Proofs.Ytmbaooocjoaehaa.G
open WB Go.RowKit Go.Proofs.YtmbaooocjoaehaaW.PrintWords Go.Proofs.YtmbaooocjoaehaaW.PrintLast Go.Proofs.YtmbaooocjoaehaaW.PrintMore
attribute [local go_sem] max2_int min2_int max_two min_two max_three min_three max_four min_four   -- for this text's walks alone
set_option linter.unusedVariables false
set_option linter.unusedSimpArgs false
def frame_Scan.l0 : Nat → List Int → List (List Int) → Int → Option ((List (List Int)) × Int × Int)
  | 0, _, _, _ => none
  | k + 1, x0, x5, x6 => if 0 ≤ x6 then (if x6 ≤ (x0.length : Int) then ((frame_Get.f k (x0.drop (x6 : Int).toNat)).bind fun bt237 => (if bt237.2.2 = 71 then (some (x5, x6, 0)) else (if bt237.2.2 = 0 then (if x5.length < 5864062014805 then (frame_Scan.l0 k x0 (x5 ++ [bt237.1]) (wrap64 (x6 + bt237.2.1))) else (none)) else (some (x5, x6, bt237.2.2))))) else (none)) else (none)
def frame_Scan.f (k : Nat) (l0 : List Int) : Option ((List (List Int)) × Int × Int) := frame_Scan.l0 k l0 ([] : List (List Int)) 0
theorem frame_Scan.mono_l : ∀ k, (∀ y0 y1 y2, LeO (frame_Scan.l0 k y0 y1 y2) (frame_Scan.l0 (k + 1) y0 y1 y2))
  | 0 => fun _ _ _ r h => by simp [frame_Scan.l0] at h
  | k + 1 => by
    have ih0 := frame_Scan.mono_l k
    · intro y0 y1 y2
      unfold frame_Scan.l0
      repeat' first
      | (with_reducible exact ih0 _ _ _)
      | (with_reducible exact frame_Get.mono _ _)
      | (with_reducible exact LeO.refl _)
      | (with_reducible exact LeO.none _)
      | (with_reducible refine LeO.ite ?_ ?_)
      | (with_reducible refine LeO.bind ?_ (fun _ => ?_))
      | exact ih0 _ _ _
      | exact frame_Get.mono _ _
      | exact LeO.none _
      | refine LeO.ite ?_ ?_
      | refine LeO.bind ?_ (fun _ => ?_)
theorem frame_Scan.mono : ∀ a0 k, LeO (frame_Scan.f k a0) (frame_Scan.f (k + 1) a0) := by
  intro a0 k
  have ih0 := frame_Scan.mono_l k
  unfold frame_Scan.f
  repeat' first
      | (with_reducible exact ih0 _ _ _)
      | (with_reducible exact frame_Get.mono _ _)
      | (with_reducible exact LeO.refl _)
      | (with_reducible exact LeO.none _)
      | (with_reducible refine LeO.ite ?_ ?_)
      | (with_reducible refine LeO.bind ?_ (fun _ => ?_))
      | exact ih0 _ _ _
      | exact frame_Get.mono _ _
      | exact LeO.none _
      | refine LeO.ite ?_ ?_
      | refine LeO.bind ?_ (fun _ => ?_)
set_option maxHeartbeats 8000000 in
set_option maxRecDepth 100000 in
theorem frame_Scan.calls (k : Nat) (A0 : Option Addr) (c0 : Nat) (l0 : List Int) (r1 : List (List Int)) (r2 : Int) (r3 : Int) (w : World) (hr0 : Kd.C (Kd.int .u8) w A0 l0.length l0) (hc0 : l0.length ≤ c0) (h : frame_Scan.f k l0 = some (r1, r2, r3)) :
    Calls Try.prog 14 #[.slice A0 l0.length c0] w fun e w' => ∃ v0_ : Value, e = .returned (.tuple #[v0_, .int .i64 r2, .int .i64 r3]) ∧ Kd.S (Kd.slice 5 (Kd.int .u8)) 22 w' w.heap.size (fun _ => True) v0_ r1 ∧ Below w.heap.size w w' := by
  have HR0 := Aside0.mk hr0
  have HC0 := Aside0.mk hc0
  clear hr0 hc0
  have HB := Aside0.mk (Below.refl w.heap.size w)
  have H : (frame_Scan.l0 k l0 ([] : List (List Int)) 0) = some (r1, r2, r3) := h
  clear h
  have H' := Aside0.mk H
  clear H
  go_enter Try.func14, Try.ntmps14
  go_wp2
  go_loopg [5, 6] k (fun kq v5 v6 w' => ∃ (x5_1 : List (List Int)) (x6_1 : Int), v6 = .int .i64 x6_1 ∧ Aside0 (frame_Scan.l0 kq l0 x5_1 x6_1 = some (r1, r2, r3)) ∧ Aside0 (kq ≤ k) ∧ Aside0 (Kd.S (Kd.slice 5 (Kd.int .u8)) 22 w' w.heap.size (fun _ => True) v5 x5_1) ∧ Aside0 (Below w.heap.size w w'))
  case atStart => exact ⟨(([] : List (List Int))), (0), (by first | rfl | (simp; done) | (simp [*]; done)), H', ⟨Nat.le_refl _⟩, ⟨by first | exact Kd.S_nil _ _ _ _ _ | exact Kd.N_nil _ _ _ _ _ | exact Kd.V_nil _ _ _ _ _ | exact Kd.Q_nil _ _ _ _ _ | exact Kd.R_nil _ _ _ _ _⟩, ⟨by repeat (first | (with_reducible first | exact HB.out | apply below_alloc | apply pw_below_drewN | apply below_drew1) | exact HB.out)⟩⟩
  case round =>
    clear H'
    try clear c1
    obtain ⟨x5_1, x6_1, rfl, HA, HK1, HO_5, HB⟩ := hrel
    cases gk with
    | zero => exact absurd HA.out (by simp [frame_Scan.l0])
    | succ k1 =>
      have H := HA.out
      clear HA
      simp only [frame_Scan.l0] at H
      by_cases c2 : 0 ≤ x6_1
      · rw [if_pos c2] at H
        have c2b0 := eq_true c2
        have c2b1 : decide (0 ≤ x6_1) = true := decide_eq_true c2
        clear c2
        by_cases c3 : x6_1 ≤ (l0.length : Int)
        · rw [if_pos c3] at H
          have c3b0 := eq_true c3
          have c3b1 : decide (x6_1 ≤ (l0.length : Int)) = true := decide_eq_true c3
          clear c3
          replace H := Option.bind_eq_some_iff.mp H
          obtain ⟨⟨t237, t238, t239⟩, A40, H⟩ := H
          replace H : (if t239 = 71 then (some (x5_1, x6_1, 0)) else (if t239 = 0 then (if x5_1.length < 5864062014805 then (frame_Scan.l0 k1 l0 (x5_1 ++ [t237]) (wrap64 (x6_1 + t238))) else (none)) else (some (x5_1, x6_1, t239)))) = some (r1, r2, r3) := H
          have A4 := Aside0.mk A40
          clear A40
          by_cases c5 : t239 = 71
          · rw [if_pos c5] at H
            have c5b0 : (t239 == 71) = true := beq_iff_eq.mpr c5
            have c5b1 : (t239 != 71) = false := bne_eq_false_iff_eq.mpr c5
            clear c5
            simp only [Option.some.injEq, Prod.mk.injEq] at H
            obtain ⟨rfl, rfl, rfl⟩ := H
            obtain ⟨i06, hi06, _, hsz6, _⟩ := info_parts info5
            obtain ⟨A6, hcut6, hA6, hC6⟩ := print_drop_of (P := Try.prog) (Value.int .u8) 0 22 5 .i64 Try.underlying22 hi06 hsz6 A0 c0 l0 x6_1 (of_decide_eq_true (by first | (with_reducible assumption) | assumption)) (of_decide_eq_true (by first | (with_reducible assumption) | assumption)) HC0.out
            have HR236 := Aside0.mk (Kd.C_of_reads (h1 := fun _ => rfl) (hA6 _ (Kd.reads_of_C HR0.out)))
            have HC236 := Aside0.mk hC6
            clear hA6 hC6 hi06 hsz6
            go_wp2_with (first | ((with_reducible refine gate_callee (f := 10) rfl ?_); refine goesL_ (some 14) rfl rfl Try.func10 (by kernel_rfl) rfl #[.slice A6 (l0.drop (x6_1 : Int).toNat).length (c0 - x6_1.toNat)] rfl (by (try simp only [List.map_toArray, List.map_cons, List.map_nil]); first | done | (rw [show (l0.drop (x6_1 : Int).toNat).length = (l0.length - x6_1.toNat) from List.length_drop] <;> rfl) | rfl | (simp only [List.length_drop, List.length_take]; rfl)) ?_; (with_reducible refine (frame_Get.calls k1 _ _ (l0.drop (x6_1 : Int).toNat) t237 t238 t239 _ ?side1 ?side2 A4.out).mono ?_); (case side1 => repeat (first | exact (Kd.C_below HR236.out HB.out) | (with_reducible refine Kd.C_alloc ?_ _) | (with_reducible refine Kd.C_drewN ?_ _) | (with_reducible refine Kd.C_drew ?_))); (case side2 => exact HC236.out); rintro e w7 ⟨v240, rfl, ho0, hb⟩; refine ⟨_, rfl, ?_⟩; have n0_ := Aside0.mk (Kd.S_elder' (by (with_reducible repeat (first | apply Kd.S_alloc | apply Kd.S_drewN | apply Kd.S_drew)); exact HO_5.out) (Kd.R_base ho0) hb); have n1_ := Aside0.mk (Kd.R_lower ho0 (below_size (by repeat (first | (with_reducible first | exact HB.out | apply below_alloc | apply pw_below_drewN | apply below_drew1) | exact HB.out)))); have n2_ := Aside0.mk (below_step (by repeat (first | (with_reducible first | exact HB.out | apply below_alloc | apply pw_below_drewN | apply below_drew1) | exact HB.out)) hb); clear HO_5; clear HB; have HO_5 := n0_; have HO241 := n1_; have HB := n2_; clear n0_ n1_ n2_; (try clear hb); (try clear hb2); (try clear hk); (try clear hi); (try clear ho0)))
            go_ret3
            exact ⟨_, by first | rfl | (simp [errW_none, errW_some] <;> rfl) | (simp [*, errW_none, errW_some] <;> rfl), by (with_reducible repeat (first | apply Kd.S_alloc | apply Kd.S_drewN | apply Kd.S_drew)); exact Kd.S_mono HO_5.out (fun _ hk => trivial), by repeat (first | (with_reducible first | exact HB.out | apply below_alloc | apply pw_below_drewN | apply below_drew1) | exact HB.out)⟩
          · rw [if_neg c5] at H
            have c5b0 : (t239 == 71) = false := beq_eq_false_iff_ne.mpr c5
            have c5b1 : (t239 != 71) = true := bne_iff_ne.mpr c5
            by_cases c8 : t239 = 0
            · rw [if_pos c8] at H
              have c8b0 : (t239 == 0) = true := beq_iff_eq.mpr c8
              have c8b1 : (t239 != 0) = false := bne_eq_false_iff_eq.mpr c8
              clear c8
              by_cases c9 : x5_1.length < 5864062014805
              · rw [if_pos c9] at H
                have LMc9 := Aside0.mk c9
                clear c9
                obtain ⟨y242, hy242⟩ : ∃ y_ : List (List Int), y_ = (x5_1 ++ [t237]) := ⟨_, rfl⟩
                replace H : (frame_Scan.l0 k1 l0 y242 (wrap64 (x6_1 + t238))) = some (r1, r2, r3) := by first | (rw [hy242]; with_reducible exact H) | (have H2_ := (Option.bind_some _ _).symm.trans H; rw [hy242]; with_reducible exact H2_) | (have H2_ := (Option.bind_some _ _).symm.trans H; with_reducible exact H2_) | with_reducible exact H | (rw [hy242]; exact H) | exact H
                have Ny242 := Aside0.mk hy242
                clear hy242
                have H' := Aside0.mk H
                clear H
                obtain ⟨i010, hi010, _, hsz10, _⟩ := info_parts info5
                obtain ⟨A10, hcut10, hA10, hC10⟩ := print_drop_of (P := Try.prog) (Value.int .u8) 0 22 5 .i64 Try.underlying22 hi010 hsz10 A0 c0 l0 x6_1 (of_decide_eq_true (by first | (with_reducible assumption) | assumption)) (of_decide_eq_true (by first | (with_reducible assumption) | assumption)) HC0.out
                have HR236 := Aside0.mk (Kd.C_of_reads (h1 := fun _ => rfl) (hA10 _ (Kd.reads_of_C HR0.out)))
                have HC236 := Aside0.mk hC10
                clear hA10 hC10 hi010 hsz10
                go_wp2_with (first | ((with_reducible refine gate_callee (f := 10) rfl ?_); refine goesL_ (some 14) rfl rfl Try.func10 (by kernel_rfl) rfl #[.slice A10 (l0.drop (x6_1 : Int).toNat).length (c0 - x6_1.toNat)] rfl (by (try simp only [List.map_toArray, List.map_cons, List.map_nil]); first | done | (rw [show (l0.drop (x6_1 : Int).toNat).length = (l0.length - x6_1.toNat) from List.length_drop] <;> rfl) | rfl | (simp only [List.length_drop, List.length_take]; rfl)) ?_; (with_reducible refine (frame_Get.calls k1 _ _ (l0.drop (x6_1 : Int).toNat) t237 t238 t239 _ ?side1 ?side2 A4.out).mono ?_); (case side1 => repeat (first | exact (Kd.C_below HR236.out HB.out) | (with_reducible refine Kd.C_alloc ?_ _) | (with_reducible refine Kd.C_drewN ?_ _) | (with_reducible refine Kd.C_drew ?_))); (case side2 => exact HC236.out); rintro e w11 ⟨v240, rfl, ho0, hb⟩; refine ⟨_, rfl, ?_⟩; have n0_ := Aside0.mk (Kd.S_elder' (by (with_reducible repeat (first | apply Kd.S_alloc | apply Kd.S_drewN | apply Kd.S_drew)); exact HO_5.out) (Kd.R_base ho0) hb); have n1_ := Aside0.mk (Kd.R_lower ho0 (below_size (by repeat (first | (with_reducible first | exact HB.out | apply below_alloc | apply pw_below_drewN | apply below_drew1) | exact HB.out)))); have n2_ := Aside0.mk (below_step (by repeat (first | (with_reducible first | exact HB.out | apply below_alloc | apply pw_below_drewN | apply below_drew1) | exact HB.out)) hb); clear HO_5; clear HB; have HO_5 := n0_; have HO241 := n1_; have HB := n2_; clear n0_ n1_ n2_; (try clear hb); (try clear hb2); (try clear hk); (try clear hi); (try clear ho0); obtain ⟨Ao13, co13, eo13⟩ := Kd.R_slice HO241.out; subst eo13) | ((with_reducible refine gate_builtin (b := .append) (xs := #[.tmp 27, .tmp 29]) rfl ?_); at_builtin; refine Kd.S_append (Kd.slice 5 (Kd.int .u8)) (w0 := w) w.heap.size rfl (.tmp 27) (.tmp 29) 36 22 (.slice none 0 0) 24 rfl Try.underlying36 info22 rfl (by decide) (by omega) u5 x5_1 t237 [.slice Ao13 t237.length co13] (fun _ => True) (fun k_ => some k_ = (.slice Ao13 t237.length co13 : Value).ownBlock) rfl rfl ?aP (fun k_ hk_ => ((Kd.R_mono (ok' := fun k_ => ((fun _ => True)) k_ ∧ some k_ ≠ (u5 : Value).ownBlock) (Kd.R_apart' (HO241.out) (Kd.S_typed HO_5.out) (by decide)) (fun k_ hk => ⟨trivial, hk.2⟩))).1 k_ hk_.symm) ?aF ?aO ?aB ?aS ?aL ?_; (case aP => exact Kd.M_row (Kd.R_mono (Kd.R_tight rfl (Kd.R_mono (ok' := fun k_ => ((fun _ => True)) k_ ∧ some k_ ≠ (u5 : Value).ownBlock) (Kd.R_apart' (HO241.out) (Kd.S_typed HO_5.out) (by decide)) (fun k_ hk => ⟨trivial, hk.2⟩))) (fun _ h_ => h_))); (case aB => exact (by repeat (first | (with_reducible first | exact HB.out | apply below_alloc | apply pw_below_drewN | apply below_drew1) | exact HB.out))); (case aF => exact (fun _ _ => trivial)); (case aO => exact (by (with_reducible repeat (first | apply Kd.S_alloc | apply Kd.S_drewN | apply Kd.S_drew)); exact Kd.S_mono HO_5.out (fun k_ hk => ⟨trivial, fun e_ => hk.2 e_⟩))); (case aS => exact (below_size (by repeat (first | (with_reducible first | exact HB.out | apply below_alloc | apply pw_below_drewN | apply below_drew1) | exact HB.out)))); (case aL => have := LMc9.out; omega); intro v243 w12 ho hb hg hat; rw [← Ny242.out] at ho; have n0_ := Aside0.mk (hb); have n1_ := Aside0.mk (ho); clear HB; clear HO_5; clear HO241; have HB := n0_; have HO244 := n1_; clear n0_ n1_; clear ho hb hg hat))
                go_roundg k1
                case measure => have := HK1.out; omega
                case rel => exact ⟨(y242), (wrap64 (x6_1 + t238)), (by first | rfl | (simp; done) | (simp [*]; done)), H', ⟨by have := HK1.out; omega⟩, ⟨by (with_reducible repeat (first | apply Kd.S_alloc | apply Kd.S_drewN | apply Kd.S_drew)); exact HO244.out⟩, ⟨by repeat (first | (with_reducible first | exact HB.out | apply below_alloc | apply pw_below_drewN | apply below_drew1) | exact HB.out)⟩⟩
              · rw [if_neg c9] at H
                exact absurd H (by simp)
            · rw [if_neg c8] at H
              have c8b0 : (t239 == 0) = false := beq_eq_false_iff_ne.mpr c8
              have c8b1 : (t239 != 0) = true := bne_iff_ne.mpr c8
              simp only [Option.some.injEq, Prod.mk.injEq] at H
              obtain ⟨rfl, rfl, rfl⟩ := H
              obtain ⟨i014, hi014, _, hsz14, _⟩ := info_parts info5
              obtain ⟨A14, hcut14, hA14, hC14⟩ := print_drop_of (P := Try.prog) (Value.int .u8) 0 22 5 .i64 Try.underlying22 hi014 hsz14 A0 c0 l0 x6_1 (of_decide_eq_true (by first | (with_reducible assumption) | assumption)) (of_decide_eq_true (by first | (with_reducible assumption) | assumption)) HC0.out
              have HR236 := Aside0.mk (Kd.C_of_reads (h1 := fun _ => rfl) (hA14 _ (Kd.reads_of_C HR0.out)))
              have HC236 := Aside0.mk hC14
              clear hA14 hC14 hi014 hsz14
              go_wp2_with (first | ((with_reducible refine gate_callee (f := 10) rfl ?_); refine goesL_ (some 14) rfl rfl Try.func10 (by kernel_rfl) rfl #[.slice A14 (l0.drop (x6_1 : Int).toNat).length (c0 - x6_1.toNat)] rfl (by (try simp only [List.map_toArray, List.map_cons, List.map_nil]); first | done | (rw [show (l0.drop (x6_1 : Int).toNat).length = (l0.length - x6_1.toNat) from List.length_drop] <;> rfl) | rfl | (simp only [List.length_drop, List.length_take]; rfl)) ?_; (with_reducible refine (frame_Get.calls k1 _ _ (l0.drop (x6_1 : Int).toNat) t237 t238 t239 _ ?side1 ?side2 A4.out).mono ?_); (case side1 => repeat (first | exact (Kd.C_below HR236.out HB.out) | (with_reducible refine Kd.C_alloc ?_ _) | (with_reducible refine Kd.C_drewN ?_ _) | (with_reducible refine Kd.C_drew ?_))); (case side2 => exact HC236.out); rintro e w15 ⟨v240, rfl, ho0, hb⟩; refine ⟨_, rfl, ?_⟩; have n0_ := Aside0.mk (Kd.S_elder' (by (with_reducible repeat (first | apply Kd.S_alloc | apply Kd.S_drewN | apply Kd.S_drew)); exact HO_5.out) (Kd.R_base ho0) hb); have n1_ := Aside0.mk (Kd.R_lower ho0 (below_size (by repeat (first | (with_reducible first | exact HB.out | apply below_alloc | apply pw_below_drewN | apply below_drew1) | exact HB.out)))); have n2_ := Aside0.mk (below_step (by repeat (first | (with_reducible first | exact HB.out | apply below_alloc | apply pw_below_drewN | apply below_drew1) | exact HB.out)) hb); clear HO_5; clear HB; have HO_5 := n0_; have HO241 := n1_; have HB := n2_; clear n0_ n1_ n2_; (try clear hb); (try clear hb2); (try clear hk); (try clear hi); (try clear ho0)))
              go_ret3
              exact ⟨_, by first | rfl | (simp [errW_none, errW_some] <;> rfl) | (simp [*, errW_none, errW_some] <;> rfl), by (with_reducible repeat (first | apply Kd.S_alloc | apply Kd.S_drewN | apply Kd.S_drew)); exact Kd.S_mono HO_5.out (fun _ hk => trivial), by repeat (first | (with_reducible first | exact HB.out | apply below_alloc | apply pw_below_drewN | apply below_drew1) | exact HB.out)⟩
        · rw [if_neg c3] at H
          exact absurd H (by simp)
      · rw [if_neg c2] at H
        exact absurd H (by simp)
end Go.Proofs.Ytmbaooocjoaehaa.G
end

section
namespace Go.Proofs.Ytmbaooocjoaehaa.G
open WB Go.RowKit Go.Proofs.YtmbaooocjoaehaaW.PrintWords Go.Proofs.YtmbaooocjoaehaaW.PrintLast Go.Proofs.YtmbaooocjoaehaaW.PrintMore
attribute [local go_sem] max2_int min2_int max_two min_two max_three min_three max_four min_four   -- for this text's walks alone
set_option linter.unusedVariables false
set_option linter.unusedSimpArgs false
def waybillplain_SameBytes.f (l0 : List Int) (l1 : List Int) : Option (Bool) := some ((strOfNums l0).toList == (strOfNums l1).toList)
set_option maxHeartbeats 8000000 in
set_option maxRecDepth 100000 in
theorem waybillplain_SameBytes.calls (A0 : Option Addr) (c0 : Nat) (l0 : List Int) (A1 : Option Addr) (c1 : Nat) (l1 : List Int) (r : Bool) (w : World) (hr0 : Kd.C (Kd.int .u8) w A0 l0.length l0) (hc0 : l0.length ≤ c0) (hr1 : Kd.C (Kd.int .u8) w A1 l1.length l1) (hc1 : l1.length ≤ c1) (h : waybillplain_SameBytes.f l0 l1 = some r) :
    Calls Try.prog 16 #[.slice A0 l0.length c0, .slice A1 l1.length c1] w fun e w' => e = .returned (.bool r) ∧ Drawn0 w w' := by
  have HR0 := Aside0.mk hr0
  have HC0 := Aside0.mk hc0
  clear hr0 hc0
  have HR1 := Aside0.mk hr1
  have HC1 := Aside0.mk hc1
  clear hr1 hc1
  have H : (some ((strOfNums l0).toList == (strOfNums l1).toList)) = some r := h
  clear h
  obtain rfl := Option.some.inj H
  simp only [Option.some.injEq, Prod.mk.injEq] at H
  obtain ⟨rfl⟩ := H
  have hcv3 := Kd.C_string (P := Try.prog) (A := A0) (c := c0) Try.underlying22 Try.underlying5 Try.underlying9 HR0.out; have hcv3n := fun n_ => Kd.C_string (P := Try.prog) (A := A0) (c := c0) Try.underlying22 Try.underlying5 Try.underlying9 (Kd.C_drewN HR0.out n_)
  have hcv4 := Kd.C_string (P := Try.prog) (A := A1) (c := c1) Try.underlying22 Try.underlying5 Try.underlying9 HR1.out; have hcv4n := fun n_ => Kd.C_string (P := Try.prog) (A := A1) (c := c1) Try.underlying22 Try.underlying5 Try.underlying9 (Kd.C_drewN HR1.out n_)
  go_enter Try.func16, Try.ntmps16
  go_wp2
  go_ret
  exact ⟨by first | rfl | (simp; done) | (simp [*]; done), by repeat (first | exact Drawn0.refl _ | apply Drawn0.step)⟩
end Go.Proofs.Ytmbaooocjoaehaa.G
end

section
namespace Go.Proofs.Ytmbaooocjoaehaa.G
open WB Go.RowKit Go.Proofs.YtmbaooocjoaehaaW.PrintWords Go.Proofs.YtmbaooocjoaehaaW.PrintLast Go.Proofs.YtmbaooocjoaehaaW.PrintMore
attribute [local go_sem] max2_int min2_int max_two min_two max_three min_three max_four min_four   -- for this text's walks alone
set_option linter.unusedVariables false
set_option linter.unusedSimpArgs false
def waybillplain_SameList.l0 : Nat → List (List Int) → List (List Int) → Int → Option (Bool)
  | 0, _, _, _ => none
  | k + 1, x0, x1, x5 => if x5 < (x0.length : Int) then (if 0 ≤ x5 then (if x5 < (x1.length : Int) then ((waybillplain_SameBytes.f (rd_L1 x0 x5) (rd_L1 x1 x5)).bind fun t256 => (if t256 = true then (waybillplain_SameList.l0 k x0 x1 (wrap64 (x5 + 1))) else (some false))) else (none)) else (none)) else (some true)
def waybillplain_SameList.f (k : Nat) (l0 : List (List Int)) (l1 : List (List Int)) : Option (Bool) := if (l0.length : Int) = (l1.length : Int) then (waybillplain_SameList.l0 k l0 l1 0) else (some false)
theorem waybillplain_SameList.mono_l : ∀ k, (∀ y0 y1 y2, LeO (waybillplain_SameList.l0 k y0 y1 y2) (waybillplain_SameList.l0 (k + 1) y0 y1 y2))
  | 0 => fun _ _ _ r h => by simp [waybillplain_SameList.l0] at h
  | k + 1 => by
    have ih0 := waybillplain_SameList.mono_l k
    · intro y0 y1 y2
      unfold waybillplain_SameList.l0
      repeat' first
      | (with_reducible exact ih0 _ _ _)
      | (with_reducible exact LeO.refl _)
      | (with_reducible exact LeO.none _)
      | (with_reducible refine LeO.ite ?_ ?_)
      | (with_reducible refine LeO.bind ?_ (fun _ => ?_))
      | exact ih0 _ _ _
      | exact LeO.none _
      | refine LeO.ite ?_ ?_
      | refine LeO.bind ?_ (fun _ => ?_)
theorem waybillplain_SameList.mono : ∀ a0 a1 k, LeO (waybillplain_SameList.f k a0 a1) (waybillplain_SameList.f (k + 1) a0 a1) := by
  intro a0 a1 k
  have ih0 := waybillplain_SameList.mono_l k
  unfold waybillplain_SameList.f
  repeat' first
      | (with_reducible exact ih0 _ _ _)
      | (with_reducible exact LeO.refl _)
      | (with_reducible exact LeO.none _)
      | (with_reducible refine LeO.ite ?_ ?_)
      | (with_reducible refine LeO.bind ?_ (fun _ => ?_))
      | exact ih0 _ _ _
      | exact LeO.none _
      | refine LeO.ite ?_ ?_
      | refine LeO.bind ?_ (fun _ => ?_)
set_option maxHeartbeats 8000000 in
set_option maxRecDepth 100000 in
theorem waybillplain_SameList.calls (k : Nat) (A0 : Option Addr) (c0 : Nat) (l0 : List (List Int)) (A1 : Option Addr) (c1 : Nat) (l1 : List (List Int)) (r : Bool) (w : World) (hr0 : Kd.C (Kd.slice 5 (Kd.int .u8)) w A0 l0.length l0) (hc0 : l0.length ≤ c0) (hr1 : Kd.C (Kd.slice 5 (Kd.int .u8)) w A1 l1.length l1) (hc1 : l1.length ≤ c1) (h : waybillplain_SameList.f k l0 l1 = some r) :
    Calls Try.prog 17 #[.slice A0 l0.length c0, .slice A1 l1.length c1] w fun e w' => e = .returned (.bool r) ∧ Drawn0 w w' := by
  have HR0 := Aside0.mk hr0
  have HC0 := Aside0.mk hc0
  clear hr0 hc0
  have HR1 := Aside0.mk hr1
  have HC1 := Aside0.mk hc1
  clear hr1 hc1
  have H : (if (l0.length : Int) = (l1.length : Int) then (waybillplain_SameList.l0 k l0 l1 0) else (some false)) = some r := h
  clear h
  by_cases c3 : (l0.length : Int) = (l1.length : Int)
  · rw [if_pos c3] at H
    have c3b0 : ((l0.length : Int) == (l1.length : Int)) = true := beq_iff_eq.mpr c3
    have c3b1 : ((l0.length : Int) != (l1.length : Int)) = false := bne_eq_false_iff_eq.mpr c3
    have c3b2 : (l0.length == l1.length) = true := by first | simpa using c3 | (simp at c3 ⊢; omega)
    clear c3
    have H' := Aside0.mk H
    clear H
    go_enter Try.func17, Try.ntmps17
    go_wp2
    repeat (go_quiet (fail); try go_wp2)
    go_loopg [5] k (fun kq v5 w' => ∃ (x5_1 : Int), v5 = .int .i64 x5_1 ∧ Aside0 (waybillplain_SameList.l0 kq l0 l1 x5_1 = some r) ∧ Aside0 (kq ≤ k) ∧ Drawn0 w w')
    case atStart => exact ⟨(0), (by first | rfl | (simp; done) | (simp [*]; done)), H', ⟨Nat.le_refl _⟩, by repeat (first | exact Drawn0.refl _ | apply Drawn0.step)⟩
    case round =>
      clear H'
      try clear c1
      try clear p2
      try clear c3
      try clear c3b0
      try clear c3b1
      try clear c3b2
      obtain ⟨x5_1, rfl, HA, HK1, ⟨m1, rfl⟩⟩ := hrel
      cases gk with
      | zero => exact absurd HA.out (by simp [waybillplain_SameList.l0])
      | succ k1 =>
        have H := HA.out
        clear HA
        simp only [waybillplain_SameList.l0] at H
        by_cases c4 : x5_1 < (l0.length : Int)
        · rw [if_pos c4] at H
          have c4b0 : decide (x5_1 < (l0.length : Int)) = true := decide_eq_true c4
          clear c4
          by_cases c5 : 0 ≤ x5_1
          · rw [if_pos c5] at H
            have c5b0 : decide (0 ≤ x5_1) = true := decide_eq_true c5
            clear c5
            by_cases c6 : x5_1 < (l1.length : Int)
            · rw [if_pos c6] at H
              have c6b0 : decide (x5_1 < (l1.length : Int)) = true := decide_eq_true c6
              clear c6
              replace H := Option.bind_eq_some_iff.mp H
              obtain ⟨t256, A70, H⟩ := H
              replace H : (if t256 = true then (waybillplain_SameList.l0 k1 l0 l1 (wrap64 (x5_1 + 1))) else (some false)) = some r := H
              have A7 := Aside0.mk A70
              clear A70
              by_cases c8 : t256 = true
              · subst c8
                have H1 : (waybillplain_SameList.l0 k1 l0 l1 (wrap64 (x5_1 + 1))) = some r := by rw [if_pos rfl] at H; exact H
                clear H
                have H := H1
                clear H1
                have H' := Aside0.mk H
                clear H
                have p254 : 0 ≤ (x5_1 : Int) := of_decide_eq_true (by first | (with_reducible assumption) | assumption)
                have q254 : x5_1 < (l0.length : Int) := of_decide_eq_true (by first | (with_reducible assumption) | assumption)
                obtain ⟨ad254, A254_0, c254_0, e254, hx254_0, hl254_0, hi254_0⟩ := at_L1 HR0.out x5_1 p254 q254
                cases e254
                have HR254_0 := Aside0.mk hi254_0
                have HC254_0 := Aside0.mk hl254_0
                clear hi254_0 hl254_0
                replace p254 := eq_true p254
                replace q254 := eq_true q254
                have p255 : 0 ≤ (x5_1 : Int) := of_decide_eq_true (by first | (with_reducible assumption) | assumption)
                have q255 : x5_1 < (l1.length : Int) := of_decide_eq_true (by first | (with_reducible assumption) | assumption)
                obtain ⟨ad255, A255_0, c255_0, e255, hx255_0, hl255_0, hi255_0⟩ := at_L1 HR1.out x5_1 p255 q255
                cases e255
                have HR255_0 := Aside0.mk hi255_0
                have HC255_0 := Aside0.mk hl255_0
                clear hi255_0 hl255_0
                replace p255 := eq_true p255
                replace q255 := eq_true q255
                go_wp2_with (first | (go_at_call 16; (with_reducible refine (waybillplain_SameBytes.calls _ _ (rd_L1 l0 x5_1) _ _ (rd_L1 l1 x5_1) true _ ?side1 ?side2 ?side3 ?side4 A7.out).mono ?_); (case side1 => repeat (first | exact HR254_0.out | (with_reducible refine Kd.C_alloc ?_ _) | (with_reducible refine Kd.C_drewN ?_ _) | (with_reducible refine Kd.C_drew ?_))); (case side2 => exact HC254_0.out); (case side3 => repeat (first | exact HR255_0.out | (with_reducible refine Kd.C_alloc ?_ _) | (with_reducible refine Kd.C_drewN ?_ _) | (with_reducible refine Kd.C_drew ?_))); (case side4 => exact HC255_0.out); rintro e w' ⟨rfl, ⟨nd, rfl⟩⟩; (try first | exact ⟨rfl, _, World.drewN_drewN _ _ _⟩ | exact ⟨rfl, _, Eq.trans (World.drewN_drewN _ _ _) (congrArg (World.drewN _) (Nat.add_assoc _ _ _))⟩)))
                repeat (go_quiet (first | (go_at_call 16; (with_reducible refine (waybillplain_SameBytes.calls _ _ (rd_L1 l0 x5_1) _ _ (rd_L1 l1 x5_1) true _ ?side1 ?side2 ?side3 ?side4 A7.out).mono ?_); (case side1 => repeat (first | exact HR254_0.out | (with_reducible refine Kd.C_alloc ?_ _) | (with_reducible refine Kd.C_drewN ?_ _) | (with_reducible refine Kd.C_drew ?_))); (case side2 => exact HC254_0.out); (case side3 => repeat (first | exact HR255_0.out | (with_reducible refine Kd.C_alloc ?_ _) | (with_reducible refine Kd.C_drewN ?_ _) | (with_reducible refine Kd.C_drew ?_))); (case side4 => exact HC255_0.out); rintro e w' ⟨rfl, ⟨nd, rfl⟩⟩; (try first | exact ⟨rfl, _, World.drewN_drewN _ _ _⟩ | exact ⟨rfl, _, Eq.trans (World.drewN_drewN _ _ _) (congrArg (World.drewN _) (Nat.add_assoc _ _ _))⟩))); try go_wp2_with (first | (go_at_call 16; (with_reducible refine (waybillplain_SameBytes.calls _ _ (rd_L1 l0 x5_1) _ _ (rd_L1 l1 x5_1) true _ ?side1 ?side2 ?side3 ?side4 A7.out).mono ?_); (case side1 => repeat (first | exact HR254_0.out | (with_reducible refine Kd.C_alloc ?_ _) | (with_reducible refine Kd.C_drewN ?_ _) | (with_reducible refine Kd.C_drew ?_))); (case side2 => exact HC254_0.out); (case side3 => repeat (first | exact HR255_0.out | (with_reducible refine Kd.C_alloc ?_ _) | (with_reducible refine Kd.C_drewN ?_ _) | (with_reducible refine Kd.C_drew ?_))); (case side4 => exact HC255_0.out); rintro e w' ⟨rfl, ⟨nd, rfl⟩⟩; (try first | exact ⟨rfl, _, World.drewN_drewN _ _ _⟩ | exact ⟨rfl, _, Eq.trans (World.drewN_drewN _ _ _) (congrArg (World.drewN _) (Nat.add_assoc _ _ _))⟩))))
                go_roundg k1
                case measure => have := HK1.out; omega
                case rel => exact ⟨(wrap64 (x5_1 + 1)), (by first | rfl | (simp; done) | (simp [*]; done)), H', ⟨by have := HK1.out; omega⟩, by repeat (first | exact Drawn0.refl _ | apply Drawn0.step)⟩
              · replace c8 := Bool.eq_false_iff.mpr c8
                subst c8
                have H1 : (some false) = some r := by rw [if_neg (show ¬ (false = true) by decide)] at H; exact H
                clear H
                have H := H1
                clear H1
                obtain rfl := Option.some.inj H
                simp only [Option.some.injEq, Prod.mk.injEq] at H
                obtain ⟨rfl⟩ := H
                have p254 : 0 ≤ (x5_1 : Int) := of_decide_eq_true (by first | (with_reducible assumption) | assumption)
                have q254 : x5_1 < (l0.length : Int) := of_decide_eq_true (by first | (with_reducible assumption) | assumption)
                obtain ⟨ad254, A254_0, c254_0, e254, hx254_0, hl254_0, hi254_0⟩ := at_L1 HR0.out x5_1 p254 q254
                cases e254
                have HR254_0 := Aside0.mk hi254_0
                have HC254_0 := Aside0.mk hl254_0
                clear hi254_0 hl254_0
                replace p254 := eq_true p254
                replace q254 := eq_true q254
                have p255 : 0 ≤ (x5_1 : Int) := of_decide_eq_true (by first | (with_reducible assumption) | assumption)
                have q255 : x5_1 < (l1.length : Int) := of_decide_eq_true (by first | (with_reducible assumption) | assumption)
                obtain ⟨ad255, A255_0, c255_0, e255, hx255_0, hl255_0, hi255_0⟩ := at_L1 HR1.out x5_1 p255 q255
                cases e255
                have HR255_0 := Aside0.mk hi255_0
                have HC255_0 := Aside0.mk hl255_0
                clear hi255_0 hl255_0
                replace p255 := eq_true p255
                replace q255 := eq_true q255
                go_wp2_with (first | (go_at_call 16; (with_reducible refine (waybillplain_SameBytes.calls _ _ (rd_L1 l0 x5_1) _ _ (rd_L1 l1 x5_1) false _ ?side1 ?side2 ?side3 ?side4 A7.out).mono ?_); (case side1 => repeat (first | exact HR254_0.out | (with_reducible refine Kd.C_alloc ?_ _) | (with_reducible refine Kd.C_drewN ?_ _) | (with_reducible refine Kd.C_drew ?_))); (case side2 => exact HC254_0.out); (case side3 => repeat (first | exact HR255_0.out | (with_reducible refine Kd.C_alloc ?_ _) | (with_reducible refine Kd.C_drewN ?_ _) | (with_reducible refine Kd.C_drew ?_))); (case side4 => exact HC255_0.out); rintro e w' ⟨rfl, ⟨nd, rfl⟩⟩; (try first | exact ⟨rfl, _, World.drewN_drewN _ _ _⟩ | exact ⟨rfl, _, Eq.trans (World.drewN_drewN _ _ _) (congrArg (World.drewN _) (Nat.add_assoc _ _ _))⟩)))
                repeat (go_quiet (first | (go_at_call 16; (with_reducible refine (waybillplain_SameBytes.calls _ _ (rd_L1 l0 x5_1) _ _ (rd_L1 l1 x5_1) false _ ?side1 ?side2 ?side3 ?side4 A7.out).mono ?_); (case side1 => repeat (first | exact HR254_0.out | (with_reducible refine Kd.C_alloc ?_ _) | (with_reducible refine Kd.C_drewN ?_ _) | (with_reducible refine Kd.C_drew ?_))); (case side2 => exact HC254_0.out); (case side3 => repeat (first | exact HR255_0.out | (with_reducible refine Kd.C_alloc ?_ _) | (with_reducible refine Kd.C_drewN ?_ _) | (with_reducible refine Kd.C_drew ?_))); (case side4 => exact HC255_0.out); rintro e w' ⟨rfl, ⟨nd, rfl⟩⟩; (try first | exact ⟨rfl, _, World.drewN_drewN _ _ _⟩ | exact ⟨rfl, _, Eq.trans (World.drewN_drewN _ _ _) (congrArg (World.drewN _) (Nat.add_assoc _ _ _))⟩))); try go_wp2_with (first | (go_at_call 16; (with_reducible refine (waybillplain_SameBytes.calls _ _ (rd_L1 l0 x5_1) _ _ (rd_L1 l1 x5_1) false _ ?side1 ?side2 ?side3 ?side4 A7.out).mono ?_); (case side1 => repeat (first | exact HR254_0.out | (with_reducible refine Kd.C_alloc ?_ _) | (with_reducible refine Kd.C_drewN ?_ _) | (with_reducible refine Kd.C_drew ?_))); (case side2 => exact HC254_0.out); (case side3 => repeat (first | exact HR255_0.out | (with_reducible refine Kd.C_alloc ?_ _) | (with_reducible refine Kd.C_drewN ?_ _) | (with_reducible refine Kd.C_drew ?_))); (case side4 => exact HC255_0.out); rintro e w' ⟨rfl, ⟨nd, rfl⟩⟩; (try first | exact ⟨rfl, _, World.drewN_drewN _ _ _⟩ | exact ⟨rfl, _, Eq.trans (World.drewN_drewN _ _ _) (congrArg (World.drewN _) (Nat.add_assoc _ _ _))⟩))))
                go_ret
                exact ⟨by first | rfl | (simp; done) | (simp [*]; done), by repeat (first | exact Drawn0.refl _ | apply Drawn0.step)⟩
            · rw [if_neg c6] at H
              exact absurd H (by simp)
          · rw [if_neg c5] at H
            exact absurd H (by simp)
        · rw [if_neg c4] at H
          have c4b0 : decide (x5_1 < (l0.length : Int)) = false := decide_eq_false c4
          clear c4
          obtain rfl := Option.some.inj H
          simp only [Option.some.injEq, Prod.mk.injEq] at H
          obtain ⟨rfl⟩ := H
          go_wp2
          repeat (go_quiet (fail); try go_wp2)
          go_ret
          exact ⟨by first | rfl | (simp; done) | (simp [*]; done), by repeat (first | exact Drawn0.refl _ | apply Drawn0.step)⟩
  · rw [if_neg c3] at H
    have c3b0 : ((l0.length : Int) == (l1.length : Int)) = false := beq_eq_false_iff_ne.mpr c3
    have c3b1 : ((l0.length : Int) != (l1.length : Int)) = true := bne_iff_ne.mpr c3
    have c3b2 : (l0.length == l1.length) = false := by first | simpa using c3 | (simp at c3 ⊢; omega)
    obtain rfl := Option.some.inj H
    simp only [Option.some.injEq, Prod.mk.injEq] at H
    obtain ⟨rfl⟩ := H
    go_enter Try.func17, Try.ntmps17
    go_wp2
    repeat (go_quiet (fail); try go_wp2)
    go_ret
    exact ⟨by first | rfl | (simp; done) | (simp [*]; done), by repeat (first | exact Drawn0.refl _ | apply Drawn0.step)⟩
end Go.Proofs.Ytmbaooocjoaehaa.G
end

section
namespace Go.Proofs.Ytmbaooocjoaehaa.G
open WB Go.RowKit Go.Proofs.YtmbaooocjoaehaaW.PrintWords Go.Proofs.YtmbaooocjoaehaaW.PrintLast Go.Proofs.YtmbaooocjoaehaaW.PrintMore
attribute [local go_sem] max2_int min2_int max_two min_two max_three min_three max_four min_four   -- for this text's walks alone
set_option linter.unusedVariables false
set_option linter.unusedSimpArgs false
def waybilllaw03_FrameBack.j (k : Nat) (b : List Int) (l : List (List Int)) (q : List Int) : Option Bool := (waybillplain_CopyBytes.f b).bind fun cb => if cb.length + q.length < 140737488355328 then (frame_Scan.f k (cb ++ q)).bind fun t => (if t.2.2 = 0 then (if t.2.1 = (b.length : Int) then waybillplain_SameList.f k t.1 l else some false) else some false) else none
def waybilllaw03_FrameBack.l0 : Nat → List Int → Nat → List (List Int) → List Int → Option Bool
  | 0, _, _, _, _ => none
  | k + 1, b, i, l, q => if i < l.length then (frame_Put.f k b [l.getD i []]).bind fun t => (if t.2 = 0 then waybilllaw03_FrameBack.l0 k t.1 (i + 1) l q else some (decide ((l.getD i []).length = 0) || decide (4096 < (l.getD i []).length))) else (waybillref03_Get.f k q).bind fun t => (if t.2.2 = 71 then waybilllaw03_FrameBack.j k b l q else waybilllaw03_FrameBack.j k b l [])
def waybilllaw03_FrameBack.f (k : Nat) (l0 : List (List Int)) (l1 : List Int) : Option (Bool) := (waybilllaw03_alive.f).bind fun a => if a = true then waybilllaw03_FrameBack.l0 k [] 0 l0 l1 else some false
theorem waybilllaw03_FrameBack.mono : ∀ a0 a1 k, LeO (waybilllaw03_FrameBack.f k a0 a1) (waybilllaw03_FrameBack.f (k + 1) a0 a1) := by
  have hj : ∀ k b l q, LeO (waybilllaw03_FrameBack.j k b l q) (waybilllaw03_FrameBack.j (k + 1) b l q) := fun k b l q => by
    unfold waybilllaw03_FrameBack.j
    refine LeO.bind (LeO.refl _) fun cb => LeO.ite (LeO.bind (frame_Scan.mono _ _) fun t => LeO.ite (LeO.ite (waybillplain_SameList.mono _ _ _) (LeO.refl _)) (LeO.refl _)) (LeO.refl _)
  have hl : ∀ k b i l q, LeO (waybilllaw03_FrameBack.l0 k b i l q) (waybilllaw03_FrameBack.l0 (k + 1) b i l q) := by
    intro k
    induction k with
    | zero => intro b i l q; simp only [waybilllaw03_FrameBack.l0]; exact LeO.none _
    | succ k ih =>
      intro b i l q
      unfold waybilllaw03_FrameBack.l0
      refine LeO.ite (LeO.bind (frame_Put.mono _ _ _) fun t => LeO.ite (ih _ _ _ _) (LeO.refl _)) (LeO.bind (waybillref03_Get.mono _ _) fun t => LeO.ite (hj _ _ _ _) (hj _ _ _ _))
  intro a0 a1 k
  unfold waybilllaw03_FrameBack.f
  exact LeO.bind (LeO.refl _) fun a => LeO.ite (hl _ _ _ _ _) (LeO.refl _)
set_option maxHeartbeats 4000000 in
set_option maxRecDepth 100000 in
theorem waybilllaw03_FrameBack.calls (k : Nat) (A0 : Option Addr) (c0 : Nat) (l0 : List (List Int)) (A1 : Option Addr) (c1 : Nat) (l1 : List Int) (r : Bool) (w : World) (hr0 : Kd.C (Kd.slice 5 (Kd.int .u8)) w A0 l0.length l0) (hc0 : l0.length ≤ c0) (hr1 : Kd.C (Kd.int .u8) w A1 l1.length l1) (hc1 : l1.length ≤ c1) (h : waybilllaw03_FrameBack.f k l0 l1 = some r) :
    Calls Try.prog 5 #[.slice A0 l0.length c0, .slice A1 l1.length c1] w fun e w' => e = .returned (.bool r) ∧ Below w.heap.size w w' := by
  unfold waybilllaw03_FrameBack.f at h
  have HR := Aside0.mk hr0
  have HC := Aside0.mk hc0
  have HR1 := Aside0.mk hr1
  have HC1 := Aside0.mk hc1
  have hm0 : l0.length ≤ 9223372036854775807 := hr0.2.1
  have hm1 : l1.length ≤ 9223372036854775807 := hr1.2.1
  obtain ⟨al, hal, h⟩ := Option.bind_eq_some_iff.1 h
  have HAL := Aside0.mk hal
  have HH := Aside0.mk h
  clear hr0 hc0 hr1 hc1 h hal
  go_enter Try.func5, Try.ntmps5
  go_wp2_with fail
  go_at_call 7
  with_reducible refine (waybilllaw03_alive.calls al _ HAL.out).mono ?_
  rintro e w1 ⟨rfl, hb⟩
  have HB1 := Aside0.mk hb
  clear hb
  cases al with
  | false =>
    obtain rfl := Option.some.inj ((if_neg (by simp)).symm.trans HH.out)
    go_wp2_with fail
    go_ret
    exact ⟨rfl, HB1.out⟩
  | true =>
    have HL0 : Aside0 (waybilllaw03_FrameBack.l0 k [] 0 l0 l1 = some r) := ⟨(if_pos rfl).symm.trans HH.out⟩
    clear HH HAL
    go_wp2_with fail
    go_loopw [5, 6] (fun v5 v6 wr => ∃ (kk i : Nat) (bs : List Int), v6 = .int .i64 i ∧ i ≤ l0.length ∧ Aside0 (waybilllaw03_FrameBack.l0 kk bs i l0 l1 = some r) ∧ Aside0 (Kd.R (Kd.int .u8) 5 wr w.heap.size (fun _ => True) v5 bs) ∧ Aside0 (Below w.heap.size w wr)) (fun _ v6 _ => l0.length - (intOf v6).toNat)
    case atStart => exact ⟨k, 0, [], rfl, by omega, HL0, ⟨Kd.R_nil _ _ _ _ _⟩, HB1⟩
    case round =>
      obtain ⟨kk, i, bs, rfl, hi, HK, HO, HB⟩ := hrel
      obtain ⟨Ab, cb, hvb⟩ := Kd.R_slice HO.out
      subst hvb
      have HO' := Aside0.mk (Kd.R_reads' HO.out).2
      obtain ⟨kk, rfl⟩ : ∃ m, kk = m + 1 := by
        rcases kk with _ | m
        · have := HK.out; simp [waybilllaw03_FrameBack.l0] at this
        · exact ⟨m, rfl⟩
      have hK := HK.out
      unfold waybilllaw03_FrameBack.l0 at hK
      by_cases hlt : i < l0.length
      · have b1 : decide ((i : Int) < (l0.length : Int)) = true := decide_eq_true (by omega)
        have b1' : decide (i < l0.length) = true := decide_eq_true hlt
        rw [if_pos hlt] at hK
        obtain ⟨t, ht, hK⟩ := Option.bind_eq_some_iff.1 hK
        obtain ⟨x, ex⟩ := t
        have HPT := Aside0.mk ht
        have HK1 := Aside0.mk hK
        obtain ⟨ad, A2, c2, e1, q0, q1, q2⟩ := at_rows (Kd.C_below HR.out HB.out) i hlt
        obtain ⟨p, hp⟩ : ∃ p, p = l0.getD i [] := ⟨_, rfl⟩
        rw [← hp] at q0 q1 q2 HPT HK1
        have Q1 := Aside0.mk q1
        have Q2 := Aside0.mk q2
        have HP := Aside0.mk hp
        subst e1
        clear hp q1 q2 ht hK HK
        go_wp2_with fail
        go_at_call 8
        refine calls_of_args (args' := #[.slice Ab bs.length cb, .slice (some ⟨wr.heap.size, 0, none⟩) [p].length 1]) (by first | rfl | (simp; done)) ?_
        with_reducible refine (frame_Put.calls kk Ab cb bs _ _ [p] x ex _ (Kd.C_alloc HO'.out.2 _) HO'.out.1 ?hl1 ?hl2 HPT.out).mono ?_
        case hl1 => exact C_lit1 (heap_new1 _ _) Q1.out (Kd.C_alloc Q2.out _)
        case hl2 => exact Nat.le_refl _
        rintro e w2 ⟨v2, rfl, hr2, hb2⟩
        have HB2 := Aside0.mk (below_then (below_alloc HB.out _) (by have := HB.out.size; simp; omega) hb2)
        have HR2 := Aside0.mk (Kd.R_lower hr2 (show w.heap.size ≤ _ by have := HB.out.size; simp; omega))
        clear hr2 hb2 q0
        go_wp2_with fail
        go_at_call 9
        with_reducible refine (waybilllaw03_num.calls ex ex _ rfl).mono ?_
        rintro e w3 ⟨rfl, hd⟩
        have HB3 := Aside0.mk (below_then HB2.out HB2.out.size hd.below)
        have HR3 := Aside0.mk (Kd.R_below HR2.out hd.below)
        clear hd
        by_cases he : ex = 0
        · have HK2 : Aside0 (waybilllaw03_FrameBack.l0 kk x (i + 1) l0 l1 = some r) := ⟨(if_pos he).symm.trans HK1.out⟩
          have e0 : (ex != 0) = false := by simp [he]
          clear he
          go_wp2_with fail
          go_roundw
          case rel => exact ⟨kk, i + 1, x, by go_num, by omega, HK2, HR3, HB3⟩
          case measure => simp [intOf]; omega
        · have e0 : (ex != 0) = true := by simpa using he
          obtain rfl := Option.some.inj ((if_neg he).symm.trans HK1.out)
          obtain ⟨ad', A3, c3, e2, q0, q1, q2⟩ := at_rows (Kd.C_below HR.out HB3.out) i hlt
          obtain rfl := Option.some.inj e2
          rw [← HP.out] at q0
          clear he e2 q1 q2
          by_cases h0 : p.length = 0
          · have t0 : ((p.length : Int) == 0) = true := by simp [h0]
            have t0' : (p.length == 0) = true := by simp [h0]
            have HE : Aside0 ((decide (p.length = 0) || decide (4096 < p.length)) = true) := ⟨by rw [decide_eq_true h0]; rfl⟩
            go_wp2_with fail
            go_ret
            exact ⟨congrArg (fun b => Ending.returned (.bool b)) HE.out.symm, HB3.out⟩
          · have t0 : ((p.length : Int) == 0) = false := beq_eq_false_iff_ne.2 (by omega)
            have HE : Aside0 ((decide (p.length = 0) || decide (4096 < p.length)) = decide (4096 < p.length)) := ⟨by rw [decide_eq_false h0]; rfl⟩
            clear h0
            go_wp2_with fail
            go_ret
            exact ⟨congrArg (fun b => Ending.returned (.bool b)) HE.out.symm ▸ (by first | rfl | (simp; omega)), HB3.out⟩
      · have b1 : decide ((i : Int) < (l0.length : Int)) = false := decide_eq_false (by omega)
        have b1' : decide (i < l0.length) = false := decide_eq_false hlt
        rw [if_neg hlt] at hK
        obtain ⟨t, ht, hK⟩ := Option.bind_eq_some_iff.1 hK
        obtain ⟨g1, g2, g3⟩ := t
        have HGT := Aside0.mk ht
        have HK1 := Aside0.mk hK
        clear ht hK HK
        go_wp2_with fail
        go_at_call 13
        with_reducible refine (waybillref03_Get.calls kk A1 c1 l1 g1 g2 g3 _ (Kd.C_below HR1.out HB.out) HC1.out HGT.out).mono ?_
        rintro e w2 ⟨v2, rfl, hr2, hb2⟩
        obtain ⟨A2, c2, rfl⟩ := Kd.R_slice hr2
        have HB2 := Aside0.mk (below_then HB.out HB.out.size hb2)
        have HR2 := Aside0.mk (Kd.C_below HO'.out.2 hb2)
        clear hr2 hb2
        by_cases hg : g3 = 71
        · have e0 : (g3 != 71) = false := by simp [hg]
          have HJ : Aside0 (waybilllaw03_FrameBack.j kk bs l0 (l1 : List Int) = some r) := ⟨(if_pos hg).symm.trans HK1.out⟩
          clear hg HK1
          have hq2 := HJ.out
          unfold waybilllaw03_FrameBack.j at hq2
          obtain ⟨cp, hcp, hq2⟩ := Option.bind_eq_some_iff.1 hq2
          split at hq2
          case isFalse => cases hq2
          case isTrue hsz =>
          obtain ⟨t, hst, hq2⟩ := Option.bind_eq_some_iff.1 hq2
          obtain ⟨s1, s2, s3⟩ := t
          have HCP := Aside0.mk hcp
          have HSZ := Aside0.mk hsz
          have HST := Aside0.mk hst
          have HFN := Aside0.mk hq2
          obtain ⟨y, hy⟩ : ∃ y, y = cp ++ (l1 : List Int) := ⟨_, rfl⟩
          have HY := Aside0.mk hy
          rw [← hy] at hst
          have HST2 := Aside0.mk hst
          clear hcp hsz hst hq2 HGT HST hy HJ
          go_wp2_with fail
          go_at_call 11
          with_reducible refine (waybillplain_CopyBytes.calls Ab cb bs cp _ HR2.out HO'.out.1 HCP.out).mono ?_
          rintro e w3 ⟨v3, rfl, hr3, hb3⟩
          have HB3 := Aside0.mk (below_then HB2.out HB2.out.size hb3)
          have HR3 := Aside0.mk (Kd.R_lower hr3 HB2.out.size)
          have HRb := Aside0.mk (Kd.C_below HR2.out hb3)
          clear hr3 hb3
          go_wp2_with (( (with_reducible refine gate_builtin (b := .append) (xs := #[.tmp 61, .tmp 62]) rfl ?_); at_builtin; refine Kd.R_append_rows (Kd.int .u8) (w0 := w) w.heap.size rfl (.tmp 61) (.tmp 62) 22 5 (.int .u8 0) 1 rfl Try.underlying22 info5 rfl (by decide) (by omega) v3 cp (l1 : List Int) A1 l1.length _ (fun _ => True) (fun _ => False) rfl rfl HR3.out (Kd.C_below HR1.out HB3.out) (fun _ _ h => h) (fun _ h => h.elim) (fun _ _ => trivial) HB3.out HB3.out.size (by have := HSZ.out; first | omega | (simp only [List.length_nil] at this; omega)) ?_; intro v4 w4 ho4 hb4 hg4 hat4; rw [← HY.out] at ho4; have HO4 := Aside0.mk ho4; have HB4 := Aside0.mk hb4; have HGR := Aside0.mk hg4; clear ho4 hb4 hg4 hat4))
          obtain ⟨A4, c4, rfl⟩ := Kd.R_slice HO4.out
          have HO4' := Aside0.mk (Kd.R_reads' HO4.out).2
          go_wp2_with fail
          go_at_call 14
          with_reducible refine (frame_Scan.calls kk A4 c4 y s1 s2 s3 _ HO4'.out.2 HO4'.out.1 HST2.out).mono ?_
          rintro e w5 ⟨v5, rfl, hr5, hb5⟩
          obtain ⟨A5, c5, rfl⟩ := Kd.R_slice (Kd.S_R hr5)
          have HB5 := Aside0.mk (below_then HB4.out HB4.out.size hb5)
          have HO5 := Aside0.mk (Kd.R_reads' (Kd.S_R hr5)).2
          clear hr5 hb5
          go_wp2_with fail
          go_at_call 9
          with_reducible refine (waybilllaw03_num.calls s3 s3 _ rfl).mono ?_
          rintro e w6 ⟨rfl, hd⟩
          have HB6 := Aside0.mk (below_then HB5.out HB5.out.size hd.below)
          have HO6 := Aside0.mk (And.intro HO5.out.1 (Kd.C_below HO5.out.2 hd.below))
          clear hd HO5
          by_cases hz : s3 = 0
          · have z0 : (s3 == 0) = true := by simp [hz]
            have HF1 := Aside0.mk ((if_pos hz).symm.trans HFN.out)
            clear hz HFN
            by_cases hn : s2 = (bs.length : Int)
            · have z1 : (s2 == (bs.length : Int)) = true := by simp [hn]
              have HF2 := Aside0.mk ((if_pos hn).symm.trans HF1.out)
              clear hn HF1
              go_wp2_with fail
              go_at_call 17
              with_reducible refine (waybillplain_SameList.calls kk A5 c5 s1 _ _ l0 r _ HO6.out.2 HO6.out.1 (Kd.C_below HR.out HB6.out) HC.out HF2.out).mono ?_
              rintro e w7 ⟨rfl, hd⟩
              have HB7 := Aside0.mk (below_then HB6.out HB6.out.size hd.below)
              clear hd
              go_wp2_with fail
              go_ret
              exact ⟨rfl, HB7.out⟩
            · have z1 : (s2 == (bs.length : Int)) = false := by simpa using hn
              obtain rfl := Option.some.inj ((if_neg hn).symm.trans HF1.out)
              clear hn HF1
              go_wp2_with fail
              go_ret
              exact ⟨rfl, HB6.out⟩
          · have z0 : (s3 == 0) = false := by simpa using hz
            obtain rfl := Option.some.inj ((if_neg hz).symm.trans HFN.out)
            clear hz HFN
            go_wp2_with fail
            go_ret
            exact ⟨rfl, HB6.out⟩
        · have e0 : (g3 != 71) = true := by simpa using hg
          have HJ : Aside0 (waybilllaw03_FrameBack.j kk bs l0 ([] : List Int) = some r) := ⟨(if_neg hg).symm.trans HK1.out⟩
          clear hg HK1
          have hq2 := HJ.out
          unfold waybilllaw03_FrameBack.j at hq2
          obtain ⟨cp, hcp, hq2⟩ := Option.bind_eq_some_iff.1 hq2
          split at hq2
          case isFalse => cases hq2
          case isTrue hsz =>
          obtain ⟨t, hst, hq2⟩ := Option.bind_eq_some_iff.1 hq2
          obtain ⟨s1, s2, s3⟩ := t
          have HCP := Aside0.mk hcp
          have HSZ := Aside0.mk hsz
          have HST := Aside0.mk hst
          have HFN := Aside0.mk hq2
          obtain ⟨y, hy⟩ : ∃ y, y = cp ++ ([] : List Int) := ⟨_, rfl⟩
          have HY := Aside0.mk hy
          rw [← hy] at hst
          have HST2 := Aside0.mk hst
          clear hcp hsz hst hq2 HGT HST hy HJ
          go_wp2_with fail
          go_at_call 11
          with_reducible refine (waybillplain_CopyBytes.calls Ab cb bs cp _ HR2.out HO'.out.1 HCP.out).mono ?_
          rintro e w3 ⟨v3, rfl, hr3, hb3⟩
          have HB3 := Aside0.mk (below_then HB2.out HB2.out.size hb3)
          have HR3 := Aside0.mk (Kd.R_lower hr3 HB2.out.size)
          have HRb := Aside0.mk (Kd.C_below HR2.out hb3)
          clear hr3 hb3
          go_wp2_with (( (with_reducible refine gate_builtin (b := .append) (xs := #[.tmp 61, .tmp 62]) rfl ?_); at_builtin; refine Kd.R_append_rows (Kd.int .u8) (w0 := w) w.heap.size rfl (.tmp 61) (.tmp 62) 22 5 (.int .u8 0) 1 rfl Try.underlying22 info5 rfl (by decide) (by omega) v3 cp ([] : List Int) none 0 _ (fun _ => True) (fun _ => False) rfl rfl HR3.out (Kd.C_nil _ _) (fun _ _ h => h) (fun _ h => h.elim) (fun _ _ => trivial) HB3.out HB3.out.size (by have := HSZ.out; first | omega | (simp only [List.length_nil] at this; omega)) ?_; intro v4 w4 ho4 hb4 hg4 hat4; rw [← HY.out] at ho4; have HO4 := Aside0.mk ho4; have HB4 := Aside0.mk hb4; have HGR := Aside0.mk hg4; clear ho4 hb4 hg4 hat4))
          obtain ⟨A4, c4, rfl⟩ := Kd.R_slice HO4.out
          have HO4' := Aside0.mk (Kd.R_reads' HO4.out).2
          go_wp2_with fail
          go_at_call 14
          with_reducible refine (frame_Scan.calls kk A4 c4 y s1 s2 s3 _ HO4'.out.2 HO4'.out.1 HST2.out).mono ?_
          rintro e w5 ⟨v5, rfl, hr5, hb5⟩
          obtain ⟨A5, c5, rfl⟩ := Kd.R_slice (Kd.S_R hr5)
          have HB5 := Aside0.mk (below_then HB4.out HB4.out.size hb5)
          have HO5 := Aside0.mk (Kd.R_reads' (Kd.S_R hr5)).2
          clear hr5 hb5
          go_wp2_with fail
          go_at_call 9
          with_reducible refine (waybilllaw03_num.calls s3 s3 _ rfl).mono ?_
          rintro e w6 ⟨rfl, hd⟩
          have HB6 := Aside0.mk (below_then HB5.out HB5.out.size hd.below)
          have HO6 := Aside0.mk (And.intro HO5.out.1 (Kd.C_below HO5.out.2 hd.below))
          clear hd HO5
          by_cases hz : s3 = 0
          · have z0 : (s3 == 0) = true := by simp [hz]
            have HF1 := Aside0.mk ((if_pos hz).symm.trans HFN.out)
            clear hz HFN
            by_cases hn : s2 = (bs.length : Int)
            · have z1 : (s2 == (bs.length : Int)) = true := by simp [hn]
              have HF2 := Aside0.mk ((if_pos hn).symm.trans HF1.out)
              clear hn HF1
              go_wp2_with fail
              go_at_call 17
              with_reducible refine (waybillplain_SameList.calls kk A5 c5 s1 _ _ l0 r _ HO6.out.2 HO6.out.1 (Kd.C_below HR.out HB6.out) HC.out HF2.out).mono ?_
              rintro e w7 ⟨rfl, hd⟩
              have HB7 := Aside0.mk (below_then HB6.out HB6.out.size hd.below)
              clear hd
              go_wp2_with fail
              go_ret
              exact ⟨rfl, HB7.out⟩
            · have z1 : (s2 == (bs.length : Int)) = false := by simpa using hn
              obtain rfl := Option.some.inj ((if_neg hn).symm.trans HF1.out)
              clear hn HF1
              go_wp2_with fail
              go_ret
              exact ⟨rfl, HB6.out⟩
          · have z0 : (s3 == 0) = false := by simpa using hz
            obtain rfl := Option.some.inj ((if_neg hz).symm.trans HFN.out)
            clear hz HFN
            go_wp2_with fail
            go_ret
            exact ⟨rfl, HB6.out⟩
end Go.Proofs.Ytmbaooocjoaehaa.G
end
