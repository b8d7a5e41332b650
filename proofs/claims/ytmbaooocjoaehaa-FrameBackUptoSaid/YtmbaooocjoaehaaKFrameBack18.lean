/- FrameBack: texts of this claim, packed: what the kit's print has written for it and own texts, without what its proof does not reach. -/
import Derived.Test.YtmbaooocjoaehaaKFrameBack0
import Derived.Test.YtmbaooocjoaehaaKFrameBack2
import Derived.Test.YtmbaooocjoaehaaKFrameBack4
import Derived.Test.YtmbaooocjoaehaaKFrameBack5
import Derived.Test.YtmbaooocjoaehaaKFrameBack9
import Derived.Test.YtmbaooocjoaehaaKFrameBack10
import Derived.Test.YtmbaooocjoaehaaKFrameBack11
import Derived.Test.YtmbaooocjoaehaaKFrameBack12
import Derived.Test.YtmbaooocjoaehaaKFrameBack13
import Derived.Test.YtmbaooocjoaehaaKFrameBack14
import Derived.Test.YtmbaooocjoaehaaKFrameBack15
import Derived.Test.YtmbaooocjoaehaaKFrameBack16
import Derived.Test.YtmbaooocjoaehaaKFrameBack17
set_option linter.unusedVariables false
set_option linter.unusedSimpArgs false
set_option linter.unusedSectionVars false
section
set_option linter.unusedVariables false
set_option linter.unusedSimpArgs false
namespace Go.Proofs.Ytmbaooocjoaehaa.V
open WB Go Go.RowKit Go.Proofs.Ytmbaooocjoaehaa.G Go.Proofs.YtmbaooocjoaehaaW.PrintWords Go.Proofs.YtmbaooocjoaehaaW.PrintLast Go.Proofs.YtmbaooocjoaehaaW.PrintMore
theorem alive_f : waybilllaw03_alive.f = some true := rfl
end Go.Proofs.Ytmbaooocjoaehaa.V
end

section
namespace Go.Proofs.Ytmbaooocjoaehaa.G
open WB Go.RowKit Go.Proofs.YtmbaooocjoaehaaW.PrintWords Go.Proofs.YtmbaooocjoaehaaW.PrintLast Go.Proofs.YtmbaooocjoaehaaW.PrintMore
attribute [local go_sem] max2_int min2_int max_two min_two max_three min_three max_four min_four   -- for this text's walks alone
set_option linter.unusedVariables false
set_option linter.unusedSimpArgs false
def waybillref03_Scan.l0 : Nat → List Int → List (List Int) → Int → Option ((List (List Int)) × Int × Int)
  | 0, _, _, _ => none
  | k + 1, x0, x5, x6 => if 0 ≤ x6 then (if x6 ≤ (x0.length : Int) then ((waybillref03_Get.f k (x0.drop (x6 : Int).toNat)).bind fun bt246 => (if bt246.2.2 = 71 then (some (x5, x6, 0)) else (if bt246.2.2 = 0 then (if x5.length < 5864062014805 then (waybillref03_Scan.l0 k x0 (x5 ++ [bt246.1]) (wrap64 (x6 + bt246.2.1))) else (none)) else (some (x5, x6, bt246.2.2))))) else (none)) else (none)
def waybillref03_Scan.f (k : Nat) (l0 : List Int) : Option ((List (List Int)) × Int × Int) := waybillref03_Scan.l0 k l0 ([] : List (List Int)) 0
theorem waybillref03_Scan.mono_l : ∀ k, (∀ y0 y1 y2, LeO (waybillref03_Scan.l0 k y0 y1 y2) (waybillref03_Scan.l0 (k + 1) y0 y1 y2))
  | 0 => fun _ _ _ r h => by simp [waybillref03_Scan.l0] at h
  | k + 1 => by
    have ih0 := waybillref03_Scan.mono_l k
    · intro y0 y1 y2
      unfold waybillref03_Scan.l0
      repeat' first
      | (with_reducible exact ih0 _ _ _)
      | (with_reducible exact waybillref03_Get.mono _ _)
      | (with_reducible exact LeO.refl _)
      | (with_reducible exact LeO.none _)
      | (with_reducible refine LeO.ite ?_ ?_)
      | (with_reducible refine LeO.bind ?_ (fun _ => ?_))
      | exact ih0 _ _ _
      | exact waybillref03_Get.mono _ _
      | exact LeO.none _
      | refine LeO.ite ?_ ?_
      | refine LeO.bind ?_ (fun _ => ?_)
theorem waybillref03_Scan.mono : ∀ a0 k, LeO (waybillref03_Scan.f k a0) (waybillref03_Scan.f (k + 1) a0) := by
  intro a0 k
  have ih0 := waybillref03_Scan.mono_l k
  unfold waybillref03_Scan.f
  repeat' first
      | (with_reducible exact ih0 _ _ _)
      | (with_reducible exact waybillref03_Get.mono _ _)
      | (with_reducible exact LeO.refl _)
      | (with_reducible exact LeO.none _)
      | (with_reducible refine LeO.ite ?_ ?_)
      | (with_reducible refine LeO.bind ?_ (fun _ => ?_))
      | exact ih0 _ _ _
      | exact waybillref03_Get.mono _ _
      | exact LeO.none _
      | refine LeO.ite ?_ ?_
      | refine LeO.bind ?_ (fun _ => ?_)
set_option maxHeartbeats 8000000 in
set_option maxRecDepth 100000 in
theorem waybillref03_Scan.calls (k : Nat) (A0 : Option Addr) (c0 : Nat) (l0 : List Int) (r1 : List (List Int)) (r2 : Int) (r3 : Int) (w : World) (hr0 : Kd.C (Kd.int .u8) w A0 l0.length l0) (hc0 : l0.length ≤ c0) (h : waybillref03_Scan.f k l0 = some (r1, r2, r3)) :
    Calls Try.prog 15 #[.slice A0 l0.length c0] w fun e w' => ∃ v0_ : Value, e = .returned (.tuple #[v0_, .int .i64 r2, .int .i64 r3]) ∧ Kd.S (Kd.slice 5 (Kd.int .u8)) 22 w' w.heap.size (fun _ => True) v0_ r1 ∧ Below w.heap.size w w' := by
  have HR0 := Aside0.mk hr0
  have HC0 := Aside0.mk hc0
  clear hr0 hc0
  have HB := Aside0.mk (Below.refl w.heap.size w)
  have H : (waybillref03_Scan.l0 k l0 ([] : List (List Int)) 0) = some (r1, r2, r3) := h
  clear h
  have H' := Aside0.mk H
  clear H
  go_enter Try.func15, Try.ntmps15
  go_wp2
  go_loopg [5, 6] k (fun kq v5 v6 w' => ∃ (x5_1 : List (List Int)) (x6_1 : Int), v6 = .int .i64 x6_1 ∧ Aside0 (waybillref03_Scan.l0 kq l0 x5_1 x6_1 = some (r1, r2, r3)) ∧ Aside0 (kq ≤ k) ∧ Aside0 (Kd.S (Kd.slice 5 (Kd.int .u8)) 22 w' w.heap.size (fun _ => True) v5 x5_1) ∧ Aside0 (Below w.heap.size w w'))
  case atStart => exact ⟨(([] : List (List Int))), (0), (by first | rfl | (simp; done) | (simp [*]; done)), H', ⟨Nat.le_refl _⟩, ⟨by first | exact Kd.S_nil _ _ _ _ _ | exact Kd.N_nil _ _ _ _ _ | exact Kd.V_nil _ _ _ _ _ | exact Kd.Q_nil _ _ _ _ _ | exact Kd.R_nil _ _ _ _ _⟩, ⟨by repeat (first | (with_reducible first | exact HB.out | apply below_alloc | apply pw_below_drewN | apply below_drew1) | exact HB.out)⟩⟩
  case round =>
    clear H'
    try clear c1
    obtain ⟨x5_1, x6_1, rfl, HA, HK1, HO_5, HB⟩ := hrel
    cases gk with
    | zero => exact absurd HA.out (by simp [waybillref03_Scan.l0])
    | succ k1 =>
      have H := HA.out
      clear HA
      simp only [waybillref03_Scan.l0] at H
      by_cases c2 : 0 ≤ x6_1
      · rw [if_pos c2] at H
        have c2b0 := eq_true c2
        have c2b1 : decide (0 ≤ x6_1) = true := decide_eq_true c2
        clear c2
        by_cases c3 : x6_1 ≤ (l0.length : Int)
        · rw [if_pos c3] at H
          have c3b0 := eq_true c3
          have c3b1 : decide (x6_1 ≤ (l0.length : Int)) = true := decide_eq_true c3
          clear c3
          replace H := Option.bind_eq_some_iff.mp H
          obtain ⟨⟨t246, t247, t248⟩, A40, H⟩ := H
          replace H : (if t248 = 71 then (some (x5_1, x6_1, 0)) else (if t248 = 0 then (if x5_1.length < 5864062014805 then (waybillref03_Scan.l0 k1 l0 (x5_1 ++ [t246]) (wrap64 (x6_1 + t247))) else (none)) else (some (x5_1, x6_1, t248)))) = some (r1, r2, r3) := H
          have A4 := Aside0.mk A40
          clear A40
          by_cases c5 : t248 = 71
          · rw [if_pos c5] at H
            have c5b0 : (t248 == 71) = true := beq_iff_eq.mpr c5
            have c5b1 : (t248 != 71) = false := bne_eq_false_iff_eq.mpr c5
            clear c5
            simp only [Option.some.injEq, Prod.mk.injEq] at H
            obtain ⟨rfl, rfl, rfl⟩ := H
            obtain ⟨i06, hi06, _, hsz6, _⟩ := info_parts info5
            obtain ⟨A6, hcut6, hA6, hC6⟩ := print_drop_of (P := Try.prog) (Value.int .u8) 0 22 5 .i64 Try.underlying22 hi06 hsz6 A0 c0 l0 x6_1 (of_decide_eq_true (by first | (with_reducible assumption) | assumption)) (of_decide_eq_true (by first | (with_reducible assumption) | assumption)) HC0.out
            have HR245 := Aside0.mk (Kd.C_of_reads (h1 := fun _ => rfl) (hA6 _ (Kd.reads_of_C HR0.out)))
            have HC245 := Aside0.mk hC6
            clear hA6 hC6 hi06 hsz6
            go_wp2_with (first | ((with_reducible refine gate_callee (f := 13) rfl ?_); refine goesL_ (some 14) rfl rfl Try.func13 (by kernel_rfl) rfl #[.slice A6 (l0.drop (x6_1 : Int).toNat).length (c0 - x6_1.toNat)] rfl (by (try simp only [List.map_toArray, List.map_cons, List.map_nil]); first | done | (rw [show (l0.drop (x6_1 : Int).toNat).length = (l0.length - x6_1.toNat) from List.length_drop] <;> rfl) | rfl | (simp only [List.length_drop, List.length_take]; rfl)) ?_; (with_reducible refine (waybillref03_Get.calls k1 _ _ (l0.drop (x6_1 : Int).toNat) t246 t247 t248 _ ?side1 ?side2 A4.out).mono ?_); (case side1 => repeat (first | exact (Kd.C_below HR245.out HB.out) | (with_reducible refine Kd.C_alloc ?_ _) | (with_reducible refine Kd.C_drewN ?_ _) | (with_reducible refine Kd.C_drew ?_))); (case side2 => exact HC245.out); rintro e w7 ⟨v249, rfl, ho0, hb⟩; refine ⟨_, rfl, ?_⟩; have n0_ := Aside0.mk (Kd.S_elder' (by (with_reducible repeat (first | apply Kd.S_alloc | apply Kd.S_drewN | apply Kd.S_drew)); exact HO_5.out) (Kd.R_base ho0) hb); have n1_ := Aside0.mk (Kd.R_lower ho0 (below_size (by repeat (first | (with_reducible first | exact HB.out | apply below_alloc | apply pw_below_drewN | apply below_drew1) | exact HB.out)))); have n2_ := Aside0.mk (below_step (by repeat (first | (with_reducible first | exact HB.out | apply below_alloc | apply pw_below_drewN | apply below_drew1) | exact HB.out)) hb); clear HO_5; clear HB; have HO_5 := n0_; have HO250 := n1_; have HB := n2_; clear n0_ n1_ n2_; (try clear hb); (try clear hb2); (try clear hk); (try clear hi); (try clear ho0)))
            go_ret3
            exact ⟨_, by first | rfl | (simp [errW_none, errW_some] <;> rfl) | (simp [*, errW_none, errW_some] <;> rfl), by (with_reducible repeat (first | apply Kd.S_alloc | apply Kd.S_drewN | apply Kd.S_drew)); exact Kd.S_mono HO_5.out (fun _ hk => trivial), by repeat (first | (with_reducible first | exact HB.out | apply below_alloc | apply pw_below_drewN | apply below_drew1) | exact HB.out)⟩
          · rw [if_neg c5] at H
            have c5b0 : (t248 == 71) = false := beq_eq_false_iff_ne.mpr c5
            have c5b1 : (t248 != 71) = true := bne_iff_ne.mpr c5
            by_cases c8 : t248 = 0
            · rw [if_pos c8] at H
              have c8b0 : (t248 == 0) = true := beq_iff_eq.mpr c8
              have c8b1 : (t248 != 0) = false := bne_eq_false_iff_eq.mpr c8
              clear c8
              by_cases c9 : x5_1.length < 5864062014805
              · rw [if_pos c9] at H
                have LMc9 := Aside0.mk c9
                clear c9
                obtain ⟨y251, hy251⟩ : ∃ y_ : List (List Int), y_ = (x5_1 ++ [t246]) := ⟨_, rfl⟩
                replace H : (waybillref03_Scan.l0 k1 l0 y251 (wrap64 (x6_1 + t247))) = some (r1, r2, r3) := by first | (rw [hy251]; with_reducible exact H) | (have H2_ := (Option.bind_some _ _).symm.trans H; rw [hy251]; with_reducible exact H2_) | (have H2_ := (Option.bind_some _ _).symm.trans H; with_reducible exact H2_) | with_reducible exact H | (rw [hy251]; exact H) | exact H
                have Ny251 := Aside0.mk hy251
                clear hy251
                have H' := Aside0.mk H
                clear H
                obtain ⟨i010, hi010, _, hsz10, _⟩ := info_parts info5
                obtain ⟨A10, hcut10, hA10, hC10⟩ := print_drop_of (P := Try.prog) (Value.int .u8) 0 22 5 .i64 Try.underlying22 hi010 hsz10 A0 c0 l0 x6_1 (of_decide_eq_true (by first | (with_reducible assumption) | assumption)) (of_decide_eq_true (by first | (with_reducible assumption) | assumption)) HC0.out
                have HR245 := Aside0.mk (Kd.C_of_reads (h1 := fun _ => rfl) (hA10 _ (Kd.reads_of_C HR0.out)))
                have HC245 := Aside0.mk hC10
                clear hA10 hC10 hi010 hsz10
                go_wp2_with (first | ((with_reducible refine gate_callee (f := 13) rfl ?_); refine goesL_ (some 14) rfl rfl Try.func13 (by kernel_rfl) rfl #[.slice A10 (l0.drop (x6_1 : Int).toNat).length (c0 - x6_1.toNat)] rfl (by (try simp only [List.map_toArray, List.map_cons, List.map_nil]); first | done | (rw [show (l0.drop (x6_1 : Int).toNat).length = (l0.length - x6_1.toNat) from List.length_drop] <;> rfl) | rfl | (simp only [List.length_drop, List.length_take]; rfl)) ?_; (with_reducible refine (waybillref03_Get.calls k1 _ _ (l0.drop (x6_1 : Int).toNat) t246 t247 t248 _ ?side1 ?side2 A4.out).mono ?_); (case side1 => repeat (first | exact (Kd.C_below HR245.out HB.out) | (with_reducible refine Kd.C_alloc ?_ _) | (with_reducible refine Kd.C_drewN ?_ _) | (with_reducible refine Kd.C_drew ?_))); (case side2 => exact HC245.out); rintro e w11 ⟨v249, rfl, ho0, hb⟩; refine ⟨_, rfl, ?_⟩; have n0_ := Aside0.mk (Kd.S_elder' (by (with_reducible repeat (first | apply Kd.S_alloc | apply Kd.S_drewN | apply Kd.S_drew)); exact HO_5.out) (Kd.R_base ho0) hb); have n1_ := Aside0.mk (Kd.R_lower ho0 (below_size (by repeat (first | (with_reducible first | exact HB.out | apply below_alloc | apply pw_below_drewN | apply below_drew1) | exact HB.out)))); have n2_ := Aside0.mk (below_step (by repeat (first | (with_reducible first | exact HB.out | apply below_alloc | apply pw_below_drewN | apply below_drew1) | exact HB.out)) hb); clear HO_5; clear HB; have HO_5 := n0_; have HO250 := n1_; have HB := n2_; clear n0_ n1_ n2_; (try clear hb); (try clear hb2); (try clear hk); (try clear hi); (try clear ho0); obtain ⟨Ao13, co13, eo13⟩ := Kd.R_slice HO250.out; subst eo13) | ((with_reducible refine gate_builtin (b := .append) (xs := #[.tmp 29, .tmp 31]) rfl ?_); at_builtin; refine Kd.S_append (Kd.slice 5 (Kd.int .u8)) (w0 := w) w.heap.size rfl (.tmp 29) (.tmp 31) 36 22 (.slice none 0 0) 24 rfl Try.underlying36 info22 rfl (by decide) (by omega) u5 x5_1 t246 [.slice Ao13 t246.length co13] (fun _ => True) (fun k_ => some k_ = (.slice Ao13 t246.length co13 : Value).ownBlock) rfl rfl ?aP (fun k_ hk_ => ((Kd.R_mono (ok' := fun k_ => ((fun _ => True)) k_ ∧ some k_ ≠ (u5 : Value).ownBlock) (Kd.R_apart' (HO250.out) (Kd.S_typed HO_5.out) (by decide)) (fun k_ hk => ⟨trivial, hk.2⟩))).1 k_ hk_.symm) ?aF ?aO ?aB ?aS ?aL ?_; (case aP => exact Kd.M_row (Kd.R_mono (Kd.R_tight rfl (Kd.R_mono (ok' := fun k_ => ((fun _ => True)) k_ ∧ some k_ ≠ (u5 : Value).ownBlock) (Kd.R_apart' (HO250.out) (Kd.S_typed HO_5.out) (by decide)) (fun k_ hk => ⟨trivial, hk.2⟩))) (fun _ h_ => h_))); (case aB => exact (by repeat (first | (with_reducible first | exact HB.out | apply below_alloc | apply pw_below_drewN | apply below_drew1) | exact HB.out))); (case aF => exact (fun _ _ => trivial)); (case aO => exact (by (with_reducible repeat (first | apply Kd.S_alloc | apply Kd.S_drewN | apply Kd.S_drew)); exact Kd.S_mono HO_5.out (fun k_ hk => ⟨trivial, fun e_ => hk.2 e_⟩))); (case aS => exact (below_size (by repeat (first | (with_reducible first | exact HB.out | apply below_alloc | apply pw_below_drewN | apply below_drew1) | exact HB.out)))); (case aL => have := LMc9.out; omega); intro v252 w12 ho hb hg hat; rw [← Ny251.out] at ho; have n0_ := Aside0.mk (hb); have n1_ := Aside0.mk (ho); clear HB; clear HO_5; clear HO250; have HB := n0_; have HO253 := n1_; clear n0_ n1_; clear ho hb hg hat))
                go_roundg k1
                case measure => have := HK1.out; omega
                case rel => exact ⟨(y251), (wrap64 (x6_1 + t247)), (by first | rfl | (simp; done) | (simp [*]; done)), H', ⟨by have := HK1.out; omega⟩, ⟨by (with_reducible repeat (first | apply Kd.S_alloc | apply Kd.S_drewN | apply Kd.S_drew)); exact HO253.out⟩, ⟨by repeat (first | (with_reducible first | exact HB.out | apply below_alloc | apply pw_below_drewN | apply below_drew1) | exact HB.out)⟩⟩
              · rw [if_neg c9] at H
                exact absurd H (by simp)
            · rw [if_neg c8] at H
              have c8b0 : (t248 == 0) = false := beq_eq_false_iff_ne.mpr c8
              have c8b1 : (t248 != 0) = true := bne_iff_ne.mpr c8
              simp only [Option.some.injEq, Prod.mk.injEq] at H
              obtain ⟨rfl, rfl, rfl⟩ := H
              obtain ⟨i014, hi014, _, hsz14, _⟩ := info_parts info5
              obtain ⟨A14, hcut14, hA14, hC14⟩ := print_drop_of (P := Try.prog) (Value.int .u8) 0 22 5 .i64 Try.underlying22 hi014 hsz14 A0 c0 l0 x6_1 (of_decide_eq_true (by first | (with_reducible assumption) | assumption)) (of_decide_eq_true (by first | (with_reducible assumption) | assumption)) HC0.out
              have HR245 := Aside0.mk (Kd.C_of_reads (h1 := fun _ => rfl) (hA14 _ (Kd.reads_of_C HR0.out)))
              have HC245 := Aside0.mk hC14
              clear hA14 hC14 hi014 hsz14
              go_wp2_with (first | ((with_reducible refine gate_callee (f := 13) rfl ?_); refine goesL_ (some 14) rfl rfl Try.func13 (by kernel_rfl) rfl #[.slice A14 (l0.drop (x6_1 : Int).toNat).length (c0 - x6_1.toNat)] rfl (by (try simp only [List.map_toArray, List.map_cons, List.map_nil]); first | done | (rw [show (l0.drop (x6_1 : Int).toNat).length = (l0.length - x6_1.toNat) from List.length_drop] <;> rfl) | rfl | (simp only [List.length_drop, List.length_take]; rfl)) ?_; (with_reducible refine (waybillref03_Get.calls k1 _ _ (l0.drop (x6_1 : Int).toNat) t246 t247 t248 _ ?side1 ?side2 A4.out).mono ?_); (case side1 => repeat (first | exact (Kd.C_below HR245.out HB.out) | (with_reducible refine Kd.C_alloc ?_ _) | (with_reducible refine Kd.C_drewN ?_ _) | (with_reducible refine Kd.C_drew ?_))); (case side2 => exact HC245.out); rintro e w15 ⟨v249, rfl, ho0, hb⟩; refine ⟨_, rfl, ?_⟩; have n0_ := Aside0.mk (Kd.S_elder' (by (with_reducible repeat (first | apply Kd.S_alloc | apply Kd.S_drewN | apply Kd.S_drew)); exact HO_5.out) (Kd.R_base ho0) hb); have n1_ := Aside0.mk (Kd.R_lower ho0 (below_size (by repeat (first | (with_reducible first | exact HB.out | apply below_alloc | apply pw_below_drewN | apply below_drew1) | exact HB.out)))); have n2_ := Aside0.mk (below_step (by repeat (first | (with_reducible first | exact HB.out | apply below_alloc | apply pw_below_drewN | apply below_drew1) | exact HB.out)) hb); clear HO_5; clear HB; have HO_5 := n0_; have HO250 := n1_; have HB := n2_; clear n0_ n1_ n2_; (try clear hb); (try clear hb2); (try clear hk); (try clear hi); (try clear ho0)))
              go_ret3
              exact ⟨_, by first | rfl | (simp [errW_none, errW_some] <;> rfl) | (simp [*, errW_none, errW_some] <;> rfl), by (with_reducible repeat (first | apply Kd.S_alloc | apply Kd.S_drewN | apply Kd.S_drew)); exact Kd.S_mono HO_5.out (fun _ hk => trivial), by repeat (first | (with_reducible first | exact HB.out | apply below_alloc | apply pw_below_drewN | apply below_drew1) | exact HB.out)⟩
        · rw [if_neg c3] at H
          exact absurd H (by simp)
      · rw [if_neg c2] at H
        exact absurd H (by simp)
end Go.Proofs.Ytmbaooocjoaehaa.G
end

section
set_option linter.unusedVariables false
set_option linter.unusedSimpArgs false
namespace Go.Proofs.Ytmbaooocjoaehaa.V
open WB Go Go.RowKit Go.Proofs.Ytmbaooocjoaehaa.G Go.Proofs.YtmbaooocjoaehaaW.PrintWords Go.Proofs.YtmbaooocjoaehaaW.PrintLast Go.Proofs.YtmbaooocjoaehaaW.PrintMore
theorem refput_one (b p : List Int) (hok : octetsOk p = true) (hl : b.length < 140737488340000) : Ev (fun k => waybillref03_Put.f k b p) (if checkP p = 0 then (b ++ frm p, 0) else ([], checkP p)) := by
  unfold waybillref03_Put.f checkP
  by_cases h0 : (p.length : Int) = 0
  · simp only [if_pos h0, if_neg (show ¬ ((8 : Int) = 0) by decide)]
    exact Ev.now _
  by_cases h4 : (p.length : Int) > 4096
  · simp only [if_neg h0, if_pos h4, if_neg (show ¬ ((5 : Int) = 0) by decide)]
    exact Ev.now _
  simp only [if_neg h0, if_neg h4, if_true]
  have htl := txt_len (s := p) (by omega)
  have ht := reftexts_f [] p (by simp; omega)
  rw [List.nil_append] at ht
  refine Ev.bind ht ?_
  refine Ev.bind (refsum_f (txt p) (txt_ok hok) (by omega)) ?_
  have e1 : (txt p).length + (sum4 (txt p)).length < 140737488355328 := by rw [sum4_len]; omega
  have e2 : b.length + (frm p).length < 140737488355328 := by unfold frm; rw [List.length_append, sum4_len]; omega
  refine Ev.congr (fun k => ?_) (Ev.now _)
  rw [copied_f b (by omega), Option.bind_some, Option.bind_some, if_pos (by exact e1), Option.bind_some, if_pos (by exact e2)]
  rfl
/-- A frame's own octets stand there. -/
theorem getAt_txt {l : List Int} (hok : octetsOk l = true) (he : (getAt l 0).2.2 = 0) (hle : (getAt l 0).2.1 + (getAt l 0).1 ≤ l.length) (hn : (getAt l 0).1 ≤ 4096) :
    txt ((l.take ((getAt l 0).2.1 + (getAt l 0).1).toNat).drop (getAt l 0).2.1.toNat) = l.take ((getAt l 0).2.1 + (getAt l 0).1).toNat ∧ (((l.take ((getAt l 0).2.1 + (getAt l 0).1).toNat).drop (getAt l 0).2.1.toNat).length : Int) = (getAt l 0).1 := by
  rcases getAt_cases hok 0 with ⟨e, h, h2⟩ | ⟨q, x, rest, h1, h2, h3, h4⟩
  · rw [h] at he
    rcases h2 with rfl | rfl | rfl <;> cases he
  · rw [h4] at hle hn ⊢
    dsimp only at hle hn ⊢
    have hx : x = [] := by
      cases x with
      | nil => rfl
      | cons a x => simp at h2; omega
    subst hx
    rw [List.nil_append] at h1
    have e1 : (0 + ((enc q).length : Int) + (q : Int)).toNat = (enc q).length + q := by omega
    have e2 : (0 + ((enc q).length : Int)).toNat = (enc q).length := by omega
    have hr : q ≤ rest.length := by
      have := congrArg List.length h1
      rw [List.length_append] at this
      omega
    rw [e1, e2, h1, List.take_length_add_append, List.drop_left]
    have e3 : (rest.take q).length = q := by rw [List.length_take]; omega
    refine ⟨?_, by rw [e3]⟩
    unfold txt
    rw [e3]
theorem refget_l (l : List Int) (hok : octetsOk l = true) (hl : l.length < 140737488340000) : Ev (fun k => waybillref03_Get.f k l) (getF l) := by
  have htx := getAt_txt hok
  unfold waybillref03_Get.f getF
  obtain ⟨b1, b2, b3, b4⟩ := getAt_bounds hok
  rw [refget_f l 0 hok]
  obtain ⟨g, hg⟩ : ∃ g, g = getAt l 0 := ⟨_, rfl⟩
  rw [← hg] at b1 b2 b3 b4 htx ⊢
  clear hg
  obtain ⟨n, a, e⟩ := g
  simp only [Option.bind_some] at b1 b2 b3 b4 htx ⊢
  by_cases e8 : e = 8
  · simp only [if_pos e8]
    exact Ev.now _
  simp only [if_neg e8]
  by_cases e0 : ¬ e = 0
  · simp only [if_neg e0]
    exact Ev.now _
  replace e0 : e = 0 := Decidable.not_not.1 e0
  simp only [if_pos e0]
  by_cases n0 : n = 0
  · simp only [if_pos n0]
    exact Ev.now _
  simp only [if_neg n0]
  by_cases n4 : n > 4096
  · simp only [if_pos n4]
    exact Ev.now _
  simp only [if_neg n4]
  have w1 : wrap64 n = n := by unfold wrap64; omega
  have w0 : wrap64 ((l.length : Int) - a) = l.length - a := by unfold wrap64; omega
  have w2 : wrap64 (n + 4) = n + 4 := by unfold wrap64; omega
  have w3 : wrap64 (a + n) = a + n := by unfold wrap64; omega
  have w4 : wrap64 (a + n + 4) = a + n + 4 := by unfold wrap64; omega
  simp only [w1, w0, w2, w3, w4]
  by_cases h5 : (l.length : Int) - a - 4 < n
  · simp only [if_pos h5, if_pos (show (l.length : Int) - a < n + 4 by omega)]
    exact Ev.now _
  obtain ⟨t1, t2⟩ := htx e0 (by omega) (by omega)
  simp only [if_neg h5, if_neg (show ¬ ((l.length : Int) - a < n + 4) by omega), if_pos (show a + n ≤ (l.length : Int) by omega), if_pos (show 0 ≤ a + n + 4 by omega), if_pos (show a + n + 4 ≤ (l.length : Int) by omega), if_pos b3, if_pos (show a ≤ a + n by omega)]
  have hlt : (l.take (a + n).toNat).length ≤ l.length := by rw [List.length_take]; exact Nat.min_le_right _ _
  obtain ⟨p, hp⟩ : ∃ p, p = (l.take (a + n).toNat).drop a.toNat := ⟨_, rfl⟩
  rw [← hp] at t1 t2 ⊢
  have hpo : octetsOk p = true := by rw [hp]; exact octetsOk_drop (octetsOk_take hok _) _
  have hc : checkP p = 0 := by unfold checkP; rw [if_neg (by omega), if_neg (by omega)]
  have hput := refput_one [] p hpo (by decide)
  rw [if_pos hc, List.nil_append] at hput
  refine Ev.bind hput ?_
  have hstr : ((strOfNums (frm p)).toList = (strOfNums (l.take (a + n + 4).toNat)).toList) ↔ (l.take (a + n).toNat ++ sum4 (l.take (a + n).toNat) = l.take (a + n + 4).toNat) := by
    have := strs_eq (frm p) (l.take (a + n + 4).toNat) (frm_ok hpo) (octetsOk_take hok _)
    rw [Bool.eq_iff_iff, beq_iff_eq, decide_eq_true_iff] at this
    rw [this]
    unfold frm
    rw [t1]
  by_cases h6 : l.take (a + n).toNat ++ sum4 (l.take (a + n).toNat) = l.take (a + n + 4).toNat
  · simp only [if_pos h6, if_pos (hstr.2 h6)]
    simp only [copied_f p (by omega), Option.bind_some]
    exact Ev.now _
  · simp only [if_neg h6, if_neg (fun q => h6 (hstr.1 q))]
    exact Ev.now _
theorem samelist_l0 (x : List (List Int)) (hm : x.length ≤ 140737488355328) : ∀ (d i : Nat), i + d = x.length → Ev (fun k => waybillplain_SameList.l0 k x x (i : Int)) true := by
  intro d
  induction d with
  | zero =>
    intro i hi
    refine ⟨1, fun k hk => ?_⟩
    obtain ⟨k, rfl⟩ : ∃ m, k = m + 1 := ⟨k - 1, by omega⟩
    show waybillplain_SameList.l0 (k + 1) x x _ = _
    rw [waybillplain_SameList.l0, if_neg (by omega)]
  | succ d ih =>
    intro i hi
    refine Ev.step (fun k => ?_) (ih (i + 1) (by omega))
    show waybillplain_SameList.l0 (k + 1) x x _ = _
    rw [waybillplain_SameList.l0, if_pos (by omega), if_pos (by omega), if_pos (by omega), same_self, Option.bind_some, if_pos rfl, show wrap64 ((i : Int) + 1) = ((i + 1 : Nat) : Int) by unfold wrap64; omega]
theorem samelist_self (x : List (List Int)) (hm : x.length ≤ 140737488355328) : Ev (fun k => waybillplain_SameList.f k x x) true := by
  have h := samelist_l0 x hm x.length 0 (by omega)
  refine Ev.congr (fun k => ?_) h
  show waybillplain_SameList.f k x x = _
  unfold waybillplain_SameList.f
  rw [if_pos rfl]
  rfl
end Go.Proofs.Ytmbaooocjoaehaa.V
end

section
set_option linter.unusedVariables false
set_option linter.unusedSimpArgs false
namespace Go.Proofs.Ytmbaooocjoaehaa.Pure
open WB Go Go.RowKit Go.Proofs.Ytmbaooocjoaehaa.G Go.Proofs.Ytmbaooocjoaehaa.V Go.Proofs.YtmbaooocjoaehaaW.PrintWords Go.Proofs.YtmbaooocjoaehaaW.PrintLast Go.Proofs.YtmbaooocjoaehaaW.PrintMore
/-- The frames of these payloads, one behind the other. -/
def flat : List (List Int) → List Int
  | [] => []
  | p :: l => frm p ++ flat l
theorem flat_app (a b : List (List Int)) : flat (a ++ b) = flat a ++ flat b := by
  induction a with
  | nil => rfl
  | cons p l ih => show frm p ++ flat (l ++ b) = (frm p ++ flat l) ++ flat b; rw [ih, List.append_assoc]
theorem flat_len (l : List (List Int)) (h : ∀ p ∈ l, checkP p = 0) : (flat l).length ≤ 4110 * l.length := by
  induction l with
  | nil => exact Nat.le_refl _
  | cons p l ih =>
    have h1 := frm_len (h p (by simp))
    have h2 := ih fun x hx => h x (by simp [hx])
    show (frm p ++ flat l).length ≤ _
    rw [List.length_append, List.length_cons]
    omega
theorem flat_ok (l : List (List Int)) (h : ∀ p ∈ l, octetsOk p = true) : octetsOk (flat l) = true := by
  induction l with
  | nil => rfl
  | cons p l ih =>
    show octetsOk (frm p ++ flat l) = true
    rw [octetsOk_append, frm_ok (h p (by simp)), ih fun x hx => h x (by simp [hx])]
    rfl
theorem scan_frames (rest : List Int) (hr : octetsOk rest = true) (h71 : (getF rest).2.2 = 71) : ∀ (ps : List (List Int)) (pre : List Int) (x5 : List (List Int)), (∀ p ∈ ps, octetsOk p = true) → (∀ p ∈ ps, checkP p = 0) → (pre ++ flat ps ++ rest).length < 140737488340000 → x5.length + ps.length < 5864062014805 →
    Ev (fun k => frame_Scan.l0 k (pre ++ flat ps ++ rest) x5 (pre.length : Int)) (x5 ++ ps, ((pre ++ flat ps).length : Int), 0) := by
  intro ps
  induction ps with
  | nil =>
    intro pre x5 _ _ hl _
    have hd : (pre ++ flat [] ++ rest).drop pre.length = rest := by
      show (pre ++ [] ++ rest).drop _ = _
      rw [List.append_nil, List.drop_left]
    have hlen : pre.length + rest.length = (pre ++ flat [] ++ rest).length := by
      show _ = (pre ++ [] ++ rest).length
      rw [List.append_nil, List.length_append]
    obtain ⟨K, h⟩ := fget_f rest hr (by omega)
    refine ⟨K + 1, fun k hk => ?_⟩
    obtain ⟨k, rfl⟩ : ∃ m, k = m + 1 := ⟨k - 1, by omega⟩
    have a1 := h k (by omega)
    dsimp only at a1
    show frame_Scan.l0 (k + 1) (pre ++ flat [] ++ rest) x5 _ = _
    rw [frame_Scan.l0, if_pos (by omega), if_pos (by omega), Int.toNat_natCast, hd, a1, Option.bind_some, if_pos h71]
    show some (x5, _, _) = some (x5 ++ [], ((pre ++ []).length : Int), _)
    rw [List.append_nil, List.append_nil]
  | cons p ps ih =>
    intro pre x5 hok hc hl hx
    have hcp := hc p (by simp)
    have hop := hok p (by simp)
    have he : pre ++ flat (p :: ps) ++ rest = (pre ++ frm p) ++ flat ps ++ rest := by
      show pre ++ (frm p ++ flat ps) ++ rest = _
      simp only [List.append_assoc]
    have he2 : pre ++ flat (p :: ps) = (pre ++ frm p) ++ flat ps := by
      show pre ++ (frm p ++ flat ps) = _
      simp only [List.append_assoc]
    have hlen : (pre ++ frm p ++ flat ps ++ rest).length = pre.length + (frm p).length + (flat ps).length + rest.length := by
      simp only [List.length_append]
    rw [he] at hl ⊢
    rw [he2]
    have hd : (pre ++ frm p ++ flat ps ++ rest).drop pre.length = frm p ++ (flat ps ++ rest) := by
      simp only [List.append_assoc]
      rw [List.drop_left]
    have hos : octetsOk (frm p ++ (flat ps ++ rest)) = true := by
      rw [octetsOk_append, octetsOk_append, frm_ok hop, flat_ok ps fun x hx => hok x (by simp [hx]), hr]
      rfl
    obtain ⟨K1, h1⟩ := fget_f (frm p ++ (flat ps ++ rest)) hos (by rw [List.length_append, List.length_append]; omega)
    rw [get_frm p _ hcp] at h1
    rw [List.length_cons] at hx
    obtain ⟨K2, h2⟩ := ih (pre ++ frm p) (x5 ++ [p]) (fun x hx => hok x (by simp [hx])) (fun x hx => hc x (by simp [hx])) hl (by rw [List.length_append, List.length_singleton]; omega)
    have hw : wrap64 ((pre.length : Int) + ((frm p).length : Int)) = ((pre ++ frm p).length : Int) := by rw [List.length_append]; unfold wrap64; omega
    refine ⟨K1 + K2 + 1, fun k hk => ?_⟩
    obtain ⟨k, rfl⟩ : ∃ m, k = m + 1 := ⟨k - 1, by omega⟩
    have a1 := h1 k (by omega)
    have a2 := h2 k (by omega)
    dsimp only at a1 a2
    show frame_Scan.l0 (k + 1) (pre ++ frm p ++ flat ps ++ rest) x5 _ = _
    rw [frame_Scan.l0, if_pos (by omega), if_pos (by omega), Int.toNat_natCast, hd, a1, Option.bind_some, if_neg (show ¬((0 : Int) = 71) by decide), if_pos rfl, if_pos (by omega), hw, a2, List.append_assoc]
    rfl
theorem back_j (l : List (List Int)) (q : List Int) (hok : ∀ p ∈ l, octetsOk p = true) (hq : octetsOk q = true) (hc : ∀ p ∈ l, checkP p = 0) (hl : l.length ≤ 1048576) (hql : q.length ≤ 1048576) (h71 : (getF q).2.2 = 71) :
    Ev (fun k => waybilllaw03_FrameBack.j k (flat l) l q) true := by
  have hf := flat_len l hc
  obtain ⟨K1, h1⟩ := scan_frames q hq h71 l [] [] hok hc (by rw [List.nil_append, List.length_append]; omega) (by rw [List.length_nil]; omega)
  obtain ⟨K2, h2⟩ := samelist_self l (by omega)
  refine ⟨K1 + K2, fun k hk => ?_⟩
  have a1 := h1 k (by omega)
  have a2 := h2 k (by omega)
  dsimp only at a1 a2
  rw [List.nil_append, List.nil_append] at a1
  show waybilllaw03_FrameBack.j k (flat l) l q = _
  unfold waybilllaw03_FrameBack.j
  rw [copybytes_f _ (by omega), Option.bind_some, if_pos (by omega), show frame_Scan.f k (flat l ++ q) = some (l, ((flat l).length : Int), 0) from a1, Option.bind_some, if_pos rfl, if_pos rfl, a2]
theorem get_nil : (getF []).2.2 = 71 := rfl
theorem back_l0 (l : List (List Int)) (q : List Int) (hok : ∀ p ∈ l, octetsOk p = true) (hq : octetsOk q = true) (hl : l.length ≤ 1048576) (hql : q.length ≤ 1048576) : ∀ (d i : Nat), i + d = l.length → (∀ p ∈ l.take i, checkP p = 0) → Ev (fun k => waybilllaw03_FrameBack.l0 k (flat (l.take i)) i l q) true := by
  intro d
  induction d with
  | zero =>
    intro i hi hc
    have hil : i = l.length := by omega
    subst hil
    rw [List.take_length] at hc ⊢
    obtain ⟨K1, h1⟩ := refget_l q hq (by omega)
    have hj : Ev (fun k => if (getF q).2.2 = 71 then waybilllaw03_FrameBack.j k (flat l) l q else waybilllaw03_FrameBack.j k (flat l) l []) true := by
      by_cases h71 : (getF q).2.2 = 71
      · simp only [if_pos h71]
        exact back_j l q hok hq hc hl hql h71
      · simp only [if_neg h71]
        exact back_j l [] hok rfl hc hl (by simp) get_nil
    obtain ⟨K2, h2⟩ := hj
    refine ⟨K1 + K2 + 1, fun k hk => ?_⟩
    obtain ⟨k, rfl⟩ : ∃ m, k = m + 1 := ⟨k - 1, by omega⟩
    have a1 := h1 k (by omega)
    have a2 := h2 k (by omega)
    dsimp only at a1 a2
    show waybilllaw03_FrameBack.l0 (k + 1) (flat l) l.length l q = _
    rw [waybilllaw03_FrameBack.l0, if_neg (by omega), a1, Option.bind_some]
    exact a2
  | succ d ih =>
    intro i hi hc
    have hlt : i < l.length := by omega
    have hg : l.getD i [] = l[i] := by simp [List.getD_eq_getElem?_getD, hlt]
    have hmem : l[i] ∈ l := List.getElem_mem hlt
    have htk : l.take (i + 1) = l.take i ++ [l[i]] := by rw [List.take_succ_eq_append_getElem hlt]
    have hf := flat_len (l.take i) hc
    rw [List.length_take] at hf
    obtain ⟨K1, h1⟩ := fput_f (flat (l.take i)) [l[i]] (by simpa using hok _ hmem) (by rw [List.length_singleton]; omega)
    rw [put_one] at h1
    by_cases hcp : checkP l[i] = 0
    · rw [if_pos hcp] at h1
      obtain ⟨K2, h2⟩ := ih (i + 1) (by omega) (by rw [htk]; intro p hp; rcases List.mem_append.1 hp with hp | hp; exact hc p hp; rw [List.mem_singleton.1 hp]; exact hcp)
      rw [htk, flat_app, show flat [l[i]] = frm l[i] from List.append_nil _] at h2
      refine ⟨K1 + K2 + 1, fun k hk => ?_⟩
      obtain ⟨k, rfl⟩ : ∃ m, k = m + 1 := ⟨k - 1, by omega⟩
      have a1 := h1 k (by omega)
      have a2 := h2 k (by omega)
      dsimp only at a1 a2
      show waybilllaw03_FrameBack.l0 (k + 1) _ i l q = _
      rw [waybilllaw03_FrameBack.l0, if_pos hlt, hg, a1, Option.bind_some, if_pos rfl]
      exact a2
    · rw [if_neg hcp] at h1
      refine ⟨K1 + 1, fun k hk => ?_⟩
      obtain ⟨k, rfl⟩ : ∃ m, k = m + 1 := ⟨k - 1, by omega⟩
      have a1 := h1 k (by omega)
      dsimp only at a1
      show waybilllaw03_FrameBack.l0 (k + 1) _ i l q = _
      rw [waybilllaw03_FrameBack.l0, if_pos hlt, hg, a1, Option.bind_some, if_neg hcp]
      congr 1
      unfold checkP at hcp
      rw [Bool.or_eq_true, decide_eq_true_eq, decide_eq_true_eq]
      split at hcp
      · left; omega
      · split at hcp
        · right; omega
        · exact absurd rfl hcp
theorem FrameBack (l : List (List Int)) (q : List Int) (hw0 : ∀ y ∈ l, ∀ x ∈ y, (Lit.int .u8 x).wf = true) (hw1 : ∀ x ∈ q, (Lit.int .u8 x).wf = true)
    (_ : l.length * 24 ≤ reachBytes ∧ ∀ y ∈ l, y.length * 1 ≤ reachBytes ∧ ∀ x ∈ y, True) (_ : q.length * 1 ≤ reachBytes ∧ ∀ x ∈ q, True)
    (hb : (lsum (fun y => lsum (fun _ => 1) y + 1) l + 1) + ((lsum (fun _ => 1) q + 1) + 0) ≤ 1048576) : ∃ k, waybilllaw03_FrameBack.f k l q = some true := by
  rw [lsum_one q] at hb
  have hl := lsum_len (bk := fun y : List Int => lsum (fun _ => 1) y + 1) l (fun a _ => by omega)
  obtain ⟨K, h⟩ := back_l0 l q (fun p hp => ok_of_wf (hw0 p hp)) (ok_of_wf hw1) (by omega) (by omega) l.length 0 (by omega) (by simp)
  refine ⟨K, ?_⟩
  unfold waybilllaw03_FrameBack.f
  rw [alive_f, Option.bind_some, if_pos rfl]
  exact h K (Nat.le_refl _)
end Go.Proofs.Ytmbaooocjoaehaa.Pure
end
