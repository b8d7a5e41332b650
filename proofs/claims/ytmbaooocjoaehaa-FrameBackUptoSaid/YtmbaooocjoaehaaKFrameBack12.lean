/- FrameBack: texts of this claim, packed: what the kit's print has written for it and own texts, without what its proof does not reach. -/
import Derived.Test.YtmbaooocjoaehaaKFrameBack9
import Derived.Test.YtmbaooocjoaehaaKFrameBack11
set_option linter.unusedVariables false
set_option linter.unusedSimpArgs false
set_option linter.unusedSectionVars false
section
namespace Go.Proofs.Ytmbaooocjoaehaa.G
open WB Go.RowKit Go.Proofs.YtmbaooocjoaehaaW.PrintWords Go.Proofs.YtmbaooocjoaehaaW.PrintLast Go.Proofs.YtmbaooocjoaehaaW.PrintMore
attribute [local go_sem] max2_int min2_int max_two min_two max_three min_three max_four min_four   -- for this text's walks alone
set_option linter.unusedVariables false
set_option linter.unusedSimpArgs false
def waybillref01_Texts.f (k : Nat) (l0 : List Int) (l1 : List Int) : Option (List Int) := (waybillref01_Put.f k l0 (IntKind.u64.wrap ((l1.length : Int)))).bind fun t199 => (if t199.length + l1.length < 140737488355328 then (some (t199 ++ l1)) else (none))
theorem waybillref01_Texts.mono : ∀ a0 a1 k, LeO (waybillref01_Texts.f k a0 a1) (waybillref01_Texts.f (k + 1) a0 a1) := by
  intro a0 a1 k
  unfold waybillref01_Texts.f
  repeat' first
      | (with_reducible exact waybillref01_Put.mono _ _ _)
      | (with_reducible exact LeO.refl _)
      | (with_reducible exact LeO.none _)
      | (with_reducible refine LeO.ite ?_ ?_)
      | (with_reducible refine LeO.bind ?_ (fun _ => ?_))
      | exact waybillref01_Put.mono _ _ _
      | exact LeO.none _
      | refine LeO.ite ?_ ?_
      | refine LeO.bind ?_ (fun _ => ?_)
set_option maxHeartbeats 8000000 in
set_option maxRecDepth 100000 in
theorem waybillref01_Texts.calls (k : Nat) (A0 : Option Addr) (c0 : Nat) (l0 : List Int) (A1 : Option Addr) (c1 : Nat) (l1 : List Int) (r : List Int) (w : World) (hr0 : Kd.C (Kd.int .u8) w A0 l0.length l0) (hc0 : l0.length ≤ c0) (hr1 : Kd.C (Kd.int .u8) w A1 l1.length l1) (hc1 : l1.length ≤ c1) (h : waybillref01_Texts.f k l0 l1 = some r) :
    Calls Try.prog 25 #[.slice A0 l0.length c0, .slice A1 l1.length c1] w fun e w' => ∃ v0_ : Value, e = .returned (v0_) ∧ Kd.R (Kd.int .u8) 5 w' w.heap.size (fun _ => True) v0_ r ∧ Below w.heap.size w w' := by
  have HR0 := Aside0.mk hr0
  have HC0 := Aside0.mk hc0
  clear hr0 hc0
  have HR1 := Aside0.mk hr1
  have HC1 := Aside0.mk hc1
  clear hr1 hc1
  have HB := Aside0.mk (Below.refl w.heap.size w)
  have H : ((waybillref01_Put.f k l0 (IntKind.u64.wrap ((l1.length : Int)))).bind fun t199 => (if t199.length + l1.length < 140737488355328 then (some (t199 ++ l1)) else (none))) = some r := h
  clear h
  replace H := Option.bind_eq_some_iff.mp H
  obtain ⟨t199, A30, H⟩ := H
  replace H : (if t199.length + l1.length < 140737488355328 then (some (t199 ++ l1)) else (none)) = some r := H
  have A3 := Aside0.mk A30
  clear A30
  by_cases c4 : t199.length + l1.length < 140737488355328
  · rw [if_pos c4] at H
    have LMc4 := Aside0.mk c4
    clear c4
    obtain ⟨y202, hy202⟩ : ∃ y_ : List Int, y_ = (t199 ++ l1) := ⟨_, rfl⟩
    replace H : (some y202) = some r := by first | (rw [hy202]; with_reducible exact H) | (have H2_ := (Option.bind_some _ _).symm.trans H; rw [hy202]; with_reducible exact H2_) | (have H2_ := (Option.bind_some _ _).symm.trans H; with_reducible exact H2_) | with_reducible exact H | (rw [hy202]; exact H) | exact H
    have Ny202 := Aside0.mk hy202
    clear hy202
    obtain rfl := Option.some.inj H
    simp only [Option.some.injEq, Prod.mk.injEq] at H
    obtain ⟨rfl⟩ := H
    go_enter Try.func25, Try.ntmps25
    go_wp2_with (first | ((with_reducible refine gate_callee (f := 34) rfl ?_); refine goesL_ (some 9) rfl rfl Try.func34 (by kernel_rfl) rfl #[.slice A0 l0.length c0, .int .u64 (IntKind.u64.wrap ((l1.length : Int)))] rfl (by (try simp only [List.map_toArray, List.map_cons, List.map_nil]); first | done | rfl | (simp only [List.length_drop, List.length_take]; rfl)) ?_; (with_reducible refine (waybillref01_Put.calls k _ _ l0 (IntKind.u64.wrap ((l1.length : Int))) t199 _ ?side1 ?side2 A3.out).mono ?_); (case side1 => repeat (first | exact HR0.out | (with_reducible refine Kd.C_alloc ?_ _) | (with_reducible refine Kd.C_drewN ?_ _) | (with_reducible refine Kd.C_drew ?_))); (case side2 => exact HC0.out); rintro e w5 ⟨v200, rfl, ho0, hb⟩; refine ⟨_, rfl, ?_⟩; have n0_ := Aside0.mk (Kd.R_lower ho0 (below_size (by repeat (first | (with_reducible first | exact HB.out | apply below_alloc | apply pw_below_drewN | apply below_drew1) | exact HB.out)))); have n1_ := Aside0.mk (below_step (by repeat (first | (with_reducible first | exact HB.out | apply below_alloc | apply pw_below_drewN | apply below_drew1) | exact HB.out)) hb); clear HB; have HO201 := n0_; have HB := n1_; clear n0_ n1_; (try clear hb); (try clear hb2); (try clear hk); (try clear hi); (try clear ho0)) | ((with_reducible refine gate_builtin (b := .append) (xs := #[.tmp 9, .tmp 10]) rfl ?_); at_builtin; refine Kd.R_append_rows (Kd.int .u8) (w0 := w) w.heap.size rfl (.tmp 9) (.tmp 10) 22 5 (.int .u8 0) 1 rfl Try.underlying22 info5 rfl (by decide) (by omega) v200 t199 l1 _ _ _ (fun _ => True) (fun _ => False) rfl rfl ?aO ?aR (fun _ _ h => h) (fun _ h => h.elim) ?aF ?aB ?aS ?aL ?_; (case aR => repeat (first | exact (Kd.C_below HR1.out HB.out) | (with_reducible refine Kd.C_alloc ?_ _) | (with_reducible refine Kd.C_drewN ?_ _) | (with_reducible refine Kd.C_drew ?_))); (case aB => exact (by repeat (first | (with_reducible first | exact HB.out | apply below_alloc | apply pw_below_drewN | apply below_drew1) | exact HB.out))); (case aF => exact (fun _ _ => trivial)); (case aO => exact (by (with_reducible repeat (first | apply Kd.R_alloc | apply Kd.R_drewN | apply Kd.R_drew)); exact HO201.out)); (case aS => exact (below_size (by repeat (first | (with_reducible first | exact HB.out | apply below_alloc | apply pw_below_drewN | apply below_drew1) | exact HB.out)))); (case aL => have := LMc4.out; omega); intro v203 w6 ho hb hg hat; rw [← Ny202.out] at ho; have n0_ := Aside0.mk (hb); have n1_ := Aside0.mk (ho); clear HB; clear HO201; have HB := n0_; have HO204 := n1_; clear n0_ n1_; clear ho hb hg hat))
    go_ret
    exact ⟨_, by first | rfl | (simp [errW_none, errW_some] <;> rfl) | (simp [*, errW_none, errW_some] <;> rfl), by (with_reducible repeat (first | apply Kd.R_alloc | apply Kd.R_drewN | apply Kd.R_drew)); exact HO204.out, by repeat (first | (with_reducible first | exact HB.out | apply below_alloc | apply pw_below_drewN | apply below_drew1) | exact HB.out)⟩
  · rw [if_neg c4] at H
    exact absurd H (by simp)
end Go.Proofs.Ytmbaooocjoaehaa.G
end

section
namespace Go.Proofs.Ytmbaooocjoaehaa.G
open WB Go.RowKit Go.Proofs.YtmbaooocjoaehaaW.PrintWords Go.Proofs.YtmbaooocjoaehaaW.PrintLast Go.Proofs.YtmbaooocjoaehaaW.PrintMore
attribute [local go_sem] max2_int min2_int max_two min_two max_three min_three max_four min_four   -- for this text's walks alone
set_option linter.unusedVariables false
set_option linter.unusedSimpArgs false
mutual
def waybillref02_run.l0 : Nat → Int → List Int → Int → Option (Int)
  | 0, _, _, _ => none
  | k + 1, x0, x1, x5 => if x5 < (x1.length : Int) then (waybillref02_run.l1 k x0 x1 x5 0) else (some x0)
def waybillref02_run.l1 : Nat → Int → List Int → Int → Int → Option (Int)
  | 0, _, _, _, _ => none
  | k + 1, x0, x1, x5, x6 => if x6 < 8 then (if 0 ≤ x5 then (if x5 < (x1.length : Int) then (if 0 ≤ x6 then (if (Go.bits .and .u32 x0 1) = (Go.bits .and .u32 ((shr .u8 (rd x1 x5) x6) % 4294967296) 1) then (waybillref02_run.l1 k (x0 / 2) x1 x5 (wrap64 (x6 + 1))) else (waybillref02_run.l1 k (Go.bits .xor .u32 (x0 / 2) 3988292384) x1 x5 (wrap64 (x6 + 1)))) else (none)) else (none)) else (none)) else (waybillref02_run.l0 k x0 x1 (wrap64 (x5 + 1)))
end
def waybillref02_run.f (k : Nat) (a0 : Int) (l1 : List Int) : Option (Int) := waybillref02_run.l0 k a0 l1 0
theorem waybillref02_run.mono_l : ∀ k, (∀ y0 y1 y2, LeO (waybillref02_run.l0 k y0 y1 y2) (waybillref02_run.l0 (k + 1) y0 y1 y2)) ∧ (∀ y0 y1 y2 y3, LeO (waybillref02_run.l1 k y0 y1 y2 y3) (waybillref02_run.l1 (k + 1) y0 y1 y2 y3))
  | 0 => ⟨fun _ _ _ r h => by simp [waybillref02_run.l0] at h, fun _ _ _ _ r h => by simp [waybillref02_run.l1] at h⟩
  | k + 1 => by
    obtain ⟨ih0, ih1⟩ := waybillref02_run.mono_l k
    refine ⟨?_, ?_⟩
    · intro y0 y1 y2
      unfold waybillref02_run.l0
      repeat' first
      | (with_reducible exact ih0 _ _ _)
      | (with_reducible exact ih1 _ _ _ _)
      | (with_reducible exact LeO.refl _)
      | (with_reducible exact LeO.none _)
      | (with_reducible refine LeO.ite ?_ ?_)
      | (with_reducible refine LeO.bind ?_ (fun _ => ?_))
      | exact ih0 _ _ _
      | exact ih1 _ _ _ _
      | exact LeO.none _
      | refine LeO.ite ?_ ?_
      | refine LeO.bind ?_ (fun _ => ?_)
    · intro y0 y1 y2 y3
      unfold waybillref02_run.l1
      repeat' first
      | (with_reducible exact ih0 _ _ _)
      | (with_reducible exact ih1 _ _ _ _)
      | (with_reducible exact LeO.refl _)
      | (with_reducible exact LeO.none _)
      | (with_reducible refine LeO.ite ?_ ?_)
      | (with_reducible refine LeO.bind ?_ (fun _ => ?_))
      | exact ih0 _ _ _
      | exact ih1 _ _ _ _
      | exact LeO.none _
      | refine LeO.ite ?_ ?_
      | refine LeO.bind ?_ (fun _ => ?_)
theorem waybillref02_run.mono : ∀ a0 a1 k, LeO (waybillref02_run.f k a0 a1) (waybillref02_run.f (k + 1) a0 a1) := by
  intro a0 a1 k
  obtain ⟨ih0, ih1⟩ := waybillref02_run.mono_l k
  unfold waybillref02_run.f
  repeat' first
      | (with_reducible exact ih0 _ _ _)
      | (with_reducible exact ih1 _ _ _ _)
      | (with_reducible exact LeO.refl _)
      | (with_reducible exact LeO.none _)
      | (with_reducible refine LeO.ite ?_ ?_)
      | (with_reducible refine LeO.bind ?_ (fun _ => ?_))
      | exact ih0 _ _ _
      | exact ih1 _ _ _ _
      | exact LeO.none _
      | refine LeO.ite ?_ ?_
      | refine LeO.bind ?_ (fun _ => ?_)
set_option maxHeartbeats 8000000 in
set_option maxRecDepth 100000 in
theorem waybillref02_run.calls (k : Nat) (a0 : Int) (A1 : Option Addr) (c1 : Nat) (l1 : List Int) (r : Int) (w : World) (hr1 : Kd.C (Kd.int .u8) w A1 l1.length l1) (hc1 : l1.length ≤ c1) (h : waybillref02_run.f k a0 l1 = some r) :
    Calls Try.prog 35 #[.int .u32 a0, .slice A1 l1.length c1] w fun e w' => e = .returned (.int .u32 r) ∧ Drawn0 w w' := by
  have HR1 := Aside0.mk hr1
  have HC1 := Aside0.mk hc1
  clear hr1 hc1
  have H : (waybillref02_run.l0 k a0 l1 0) = some r := h
  clear h
  have H' := Aside0.mk H
  clear H
  have hsg_u32 : Go.IntKind.u32.signed = false := rfl
  have hmx_u32 : Go.IntKind.u32.max = 4294967295 := rfl
  go_enter Try.func35, Try.ntmps35
  go_wp2
  go_loopg [0, 5] k (fun kq v0 v5 w' => ∃ (x0_1 : Int) (x5_1 : Int), v0 = .int .u32 x0_1 ∧ v5 = .int .i64 x5_1 ∧ Aside0 (waybillref02_run.l0 kq x0_1 l1 x5_1 = some r) ∧ Aside0 (kq ≤ k) ∧ Drawn0 w w')
  case atStart => exact ⟨(a0), (0), (by first | rfl | (simp; done) | (simp [*]; done)), (by first | rfl | (simp; done) | (simp [*]; done)), H', ⟨Nat.le_refl _⟩, by repeat (first | exact Drawn0.refl _ | apply Drawn0.step)⟩
  case round =>
    clear H'
    try clear c1
    try clear p2
    obtain ⟨x0_1, x5_1, rfl, rfl, HA, HK1, ⟨m1, rfl⟩⟩ := hrel
    cases gk with
    | zero => exact absurd HA.out (by simp [waybillref02_run.l0])
    | succ k1 =>
      have H := HA.out
      clear HA
      simp only [waybillref02_run.l0] at H
      by_cases c3 : x5_1 < (l1.length : Int)
      · rw [if_pos c3] at H
        have c3b0 : decide (x5_1 < (l1.length : Int)) = true := decide_eq_true c3
        clear c3
        have H' := Aside0.mk H
        clear H
        go_wp2
        go_loopg [0, 6] k1 (fun kq v0 v6 w' => ∃ (x0_2 : Int) (x6_2 : Int), v0 = .int .u32 x0_2 ∧ v6 = .int .i64 x6_2 ∧ Aside0 (waybillref02_run.l1 kq x0_2 l1 x5_1 x6_2 = some r) ∧ Aside0 (kq ≤ k1) ∧ Drawn0 w w')
        case atStart => exact ⟨(x0_1), (0), (by first | rfl | (simp; done) | (simp [*]; done)), (by first | rfl | (simp; done) | (simp [*]; done)), H', ⟨Nat.le_refl _⟩, by repeat (first | exact Drawn0.refl _ | apply Drawn0.step)⟩
        case round =>
          clear H'
          try clear c1
          try clear p2
          try clear c3
          try clear c3b0
          try clear p2
          obtain ⟨x0_2, x6_2, rfl, rfl, HA, HK2, ⟨m2, rfl⟩⟩ := hrel
          cases gk with
          | zero => exact absurd HA.out (by simp [waybillref02_run.l1])
          | succ k2 =>
            have H := HA.out
            clear HA
            simp only [waybillref02_run.l1] at H
            by_cases c4 : x6_2 < 8
            · rw [if_pos c4] at H
              have c4b0 : decide (x6_2 < 8) = true := decide_eq_true c4
              clear c4
              by_cases c5 : 0 ≤ x5_1
              · rw [if_pos c5] at H
                have c5b0 : decide (0 ≤ x5_1) = true := decide_eq_true c5
                clear c5
                by_cases c6 : x5_1 < (l1.length : Int)
                · rw [if_pos c6] at H
                  have c6b0 : decide (x5_1 < (l1.length : Int)) = true := decide_eq_true c6
                  clear c6
                  by_cases c7 : 0 ≤ x6_2
                  · rw [if_pos c7] at H
                    have c7b0 := eq_true c7
                    have c7b1 : decide (0 ≤ x6_2) = true := decide_eq_true c7
                    clear c7
                    obtain ⟨ji8, hji8⟩ : ∃ j_ : Int, (shr .u8 (rd l1 x5_1) x6_2) = j_ := ⟨_, rfl⟩
                    replace H : (if (Go.bits .and .u32 x0_2 1) = (Go.bits .and .u32 ((ji8) % 4294967296) 1) then (waybillref02_run.l1 k2 (x0_2 / 2) l1 x5_1 (wrap64 (x6_2 + 1))) else (waybillref02_run.l1 k2 (Go.bits .xor .u32 (x0_2 / 2) 3988292384) l1 x5_1 (wrap64 (x6_2 + 1)))) = some r := by first | (rw [hji8] at H; exact H) | (simp only [hji8] at H ⊢; exact H)
                    have hji8_ : ((rd l1 x5_1) / 2 ^ min x6_2.toNat 8) = ji8 := hji8
                    have hji8z : x6_2 ≤ 8 → ((rd l1 x5_1) / 2 ^ x6_2.toNat) = ji8 := shr_small hji8
                    by_cases c9 : (Go.bits .and .u32 x0_2 1) = (Go.bits .and .u32 ((ji8) % 4294967296) 1)
                    · rw [if_pos c9] at H
                      have c9b0 : ((Go.bits .and .u32 x0_2 1) == (Go.bits .and .u32 ((ji8) % 4294967296) 1)) = true := beq_iff_eq.mpr c9
                      have c9b1 : ((Go.bits .and .u32 x0_2 1) != (Go.bits .and .u32 ((ji8) % 4294967296) 1)) = false := bne_eq_false_iff_eq.mpr c9
                      clear c9
                      have H' := Aside0.mk H
                      clear H
                      have p205 : 0 ≤ (x5_1 : Int) := of_decide_eq_true (by first | (with_reducible assumption) | assumption)
                      have q205 : x5_1 < (l1.length : Int) := of_decide_eq_true (by first | (with_reducible assumption) | assumption)
                      obtain ⟨ad205, e205, hx205_0⟩ := Kd.at_int HR1.out x5_1 p205 q205
                      cases e205
                      replace p205 := eq_true p205
                      replace q205 := eq_true q205
                      go_wp2
                      go_roundg k2
                      case measure => have := HK1.out; have := HK2.out; omega
                      case rel => exact ⟨(x0_2 / 2), (wrap64 (x6_2 + 1)), (by first | rfl | (simp; done) | (simp [*]; done)), (by first | rfl | (simp; done) | (simp [*]; done)), H', ⟨by have := HK1.out; have := HK2.out; omega⟩, by repeat (first | exact Drawn0.refl _ | apply Drawn0.step)⟩
                    · rw [if_neg c9] at H
                      have c9b0 : ((Go.bits .and .u32 x0_2 1) == (Go.bits .and .u32 ((ji8) % 4294967296) 1)) = false := beq_eq_false_iff_ne.mpr c9
                      have c9b1 : ((Go.bits .and .u32 x0_2 1) != (Go.bits .and .u32 ((ji8) % 4294967296) 1)) = true := bne_iff_ne.mpr c9
                      have H' := Aside0.mk H
                      clear H
                      have p205 : 0 ≤ (x5_1 : Int) := of_decide_eq_true (by first | (with_reducible assumption) | assumption)
                      have q205 : x5_1 < (l1.length : Int) := of_decide_eq_true (by first | (with_reducible assumption) | assumption)
                      obtain ⟨ad205, e205, hx205_0⟩ := Kd.at_int HR1.out x5_1 p205 q205
                      cases e205
                      replace p205 := eq_true p205
                      replace q205 := eq_true q205
                      go_wp2
                      go_roundg k2
                      case measure => have := HK1.out; have := HK2.out; omega
                      case rel => exact ⟨(Go.bits .xor .u32 (x0_2 / 2) 3988292384), (wrap64 (x6_2 + 1)), (by first | rfl | (simp; done) | (simp [*]; done)), (by first | rfl | (simp; done) | (simp [*]; done)), H', ⟨by have := HK1.out; have := HK2.out; omega⟩, by repeat (first | exact Drawn0.refl _ | apply Drawn0.step)⟩
                  · rw [if_neg c7] at H
                    exact absurd H (by simp)
                · rw [if_neg c6] at H
                  exact absurd H (by simp)
              · rw [if_neg c5] at H
                exact absurd H (by simp)
            · rw [if_neg c4] at H
              have c4b0 : decide (x6_2 < 8) = false := decide_eq_false c4
              clear c4
              have H' := Aside0.mk H
              clear H
              go_wp2
              go_roundg k2
              case measure => have := HK1.out; have := HK2.out; omega
              case rel => exact ⟨(x0_2), (wrap64 (x5_1 + 1)), (by first | rfl | (simp; done) | (simp [*]; done)), (by first | rfl | (simp; done) | (simp [*]; done)), H', ⟨by have := HK1.out; have := HK2.out; omega⟩, by repeat (first | exact Drawn0.refl _ | apply Drawn0.step)⟩
      · rw [if_neg c3] at H
        have c3b0 : decide (x5_1 < (l1.length : Int)) = false := decide_eq_false c3
        clear c3
        obtain rfl := Option.some.inj H
        simp only [Option.some.injEq, Prod.mk.injEq] at H
        obtain ⟨rfl⟩ := H
        go_wp2
        go_ret
        exact ⟨by first | rfl | (simp; done) | (simp [*]; done), by repeat (first | exact Drawn0.refl _ | apply Drawn0.step)⟩
end Go.Proofs.Ytmbaooocjoaehaa.G
end

section
namespace Go.Proofs.Ytmbaooocjoaehaa.G
open WB Go.RowKit Go.Proofs.YtmbaooocjoaehaaW.PrintWords Go.Proofs.YtmbaooocjoaehaaW.PrintLast Go.Proofs.YtmbaooocjoaehaaW.PrintMore
attribute [local go_sem] max2_int min2_int max_two min_two max_three min_three max_four min_four   -- for this text's walks alone
set_option linter.unusedVariables false
set_option linter.unusedSimpArgs false
def waybillref02_Sum.f (k : Nat) (l0 : List Int) : Option (Int) := (waybillref02_run.f k 4294967295 l0).bind fun t206 => (some (Go.bits .xor .u32 4294967295 t206))
theorem waybillref02_Sum.mono : ∀ a0 k, LeO (waybillref02_Sum.f k a0) (waybillref02_Sum.f (k + 1) a0) := by
  intro a0 k
  unfold waybillref02_Sum.f
  repeat' first
      | (with_reducible exact waybillref02_run.mono _ _ _)
      | (with_reducible exact LeO.refl _)
      | (with_reducible exact LeO.none _)
      | (with_reducible refine LeO.ite ?_ ?_)
      | (with_reducible refine LeO.bind ?_ (fun _ => ?_))
      | exact waybillref02_run.mono _ _ _
      | exact LeO.none _
      | refine LeO.ite ?_ ?_
      | refine LeO.bind ?_ (fun _ => ?_)
set_option maxHeartbeats 8000000 in
set_option maxRecDepth 100000 in
theorem waybillref02_Sum.calls (k : Nat) (A0 : Option Addr) (c0 : Nat) (l0 : List Int) (r : Int) (w : World) (hr0 : Kd.C (Kd.int .u8) w A0 l0.length l0) (hc0 : l0.length ≤ c0) (h : waybillref02_Sum.f k l0 = some r) :
    Calls Try.prog 26 #[.slice A0 l0.length c0] w fun e w' => e = .returned (.int .u32 r) ∧ Drawn0 w w' := by
  have HR0 := Aside0.mk hr0
  have HC0 := Aside0.mk hc0
  clear hr0 hc0
  have H : ((waybillref02_run.f k 4294967295 l0).bind fun t206 => (some (Go.bits .xor .u32 4294967295 t206))) = some r := h
  clear h
  replace H := Option.bind_eq_some_iff.mp H
  obtain ⟨t206, A20, H⟩ := H
  replace H : (some (Go.bits .xor .u32 4294967295 t206)) = some r := H
  have A2 := Aside0.mk A20
  clear A20
  obtain rfl := Option.some.inj H
  simp only [Option.some.injEq, Prod.mk.injEq] at H
  obtain ⟨rfl⟩ := H
  have hsg_u32 : Go.IntKind.u32.signed = false := rfl
  have hmx_u32 : Go.IntKind.u32.max = 4294967295 := rfl
  go_enter Try.func26, Try.ntmps26
  go_wp2_with (first | ((with_reducible refine gate_callee (f := 35) rfl ?_); refine goesL_ (some 4) rfl rfl Try.func35 (by kernel_rfl) rfl #[.int .u32 4294967295, .slice A0 l0.length c0] rfl (by (try simp only [List.map_toArray, List.map_cons, List.map_nil]); first | done | rfl | (simp only [List.length_drop, List.length_take]; rfl)) ?_; (with_reducible refine (waybillref02_run.calls k 4294967295 _ _ l0 t206 _ ?side1 ?side2 A2.out).mono ?_); (case side1 => repeat (first | exact HR0.out | (with_reducible refine Kd.C_alloc ?_ _) | (with_reducible refine Kd.C_drewN ?_ _) | (with_reducible refine Kd.C_drew ?_))); (case side2 => exact HC0.out); rintro e w' ⟨rfl, ⟨nd, rfl⟩⟩; refine ⟨_, rfl, ?_⟩))
  go_ret
  exact ⟨by first | rfl | (simp; done) | (simp [*]; done), by repeat (first | exact Drawn0.refl _ | apply Drawn0.step)⟩
end Go.Proofs.Ytmbaooocjoaehaa.G
end

section
namespace Go.Proofs.Ytmbaooocjoaehaa.G
open WB Go.RowKit Go.Proofs.YtmbaooocjoaehaaW.PrintWords Go.Proofs.YtmbaooocjoaehaaW.PrintLast Go.Proofs.YtmbaooocjoaehaaW.PrintMore
attribute [local go_sem] max2_int min2_int max_two min_two max_three min_three max_four min_four   -- for this text's walks alone
set_option linter.unusedVariables false
set_option linter.unusedSimpArgs false
def waybillref03_Put.f (k : Nat) (l0 : List Int) (l1 : List Int) : Option (List Int × Int) := if (l1.length : Int) = 0 then (some (([] : List Int), 8)) else (if (l1.length : Int) > 4096 then (some (([] : List Int), 5)) else ((waybillref01_Texts.f k ([] : List Int) l1).bind fun t207 => ((waybillref02_Sum.f k t207).bind fun t210 => ((waybillref01_Copied.f l0).bind fun t211 => ((some (([(t210) % 256, (t210 / 256) % 256, (t210 / 65536) % 256, (t210 / 16777216) % 256] : List Int) : List Int)).bind fun y214 => (if t207.length + y214.length < 140737488355328 then ((some (t207 ++ y214 : List Int)).bind fun y217 => (if t211.length + y217.length < 140737488355328 then (some ((t211 ++ y217), 0)) else (none))) else (none)))))))
theorem waybillref03_Put.mono : ∀ a0 a1 k, LeO (waybillref03_Put.f k a0 a1) (waybillref03_Put.f (k + 1) a0 a1) := by
  intro a0 a1 k
  unfold waybillref03_Put.f
  repeat' first
      | (with_reducible exact waybillref01_Texts.mono _ _ _)
      | (with_reducible exact waybillref02_Sum.mono _ _)
      | (with_reducible exact LeO.refl _)
      | (with_reducible exact LeO.none _)
      | (with_reducible refine LeO.ite ?_ ?_)
      | (with_reducible refine LeO.bind ?_ (fun _ => ?_))
      | exact waybillref01_Texts.mono _ _ _
      | exact waybillref02_Sum.mono _ _
      | exact LeO.none _
      | refine LeO.ite ?_ ?_
      | refine LeO.bind ?_ (fun _ => ?_)
set_option maxHeartbeats 8000000 in
set_option maxRecDepth 100000 in
theorem waybillref03_Put.calls (k : Nat) (A0 : Option Addr) (c0 : Nat) (l0 : List Int) (A1 : Option Addr) (c1 : Nat) (l1 : List Int) (r1 : List Int) (r2 : Int) (w : World) (hr0 : Kd.C (Kd.int .u8) w A0 l0.length l0) (hc0 : l0.length ≤ c0) (hr1 : Kd.C (Kd.int .u8) w A1 l1.length l1) (hc1 : l1.length ≤ c1) (h : waybillref03_Put.f k l0 l1 = some (r1, r2)) :
    Calls Try.prog 12 #[.slice A0 l0.length c0, .slice A1 l1.length c1] w fun e w' => ∃ v0_ : Value, e = .returned (.tuple #[v0_, .int .i64 r2]) ∧ Kd.R (Kd.int .u8) 5 w' w.heap.size (fun _ => True) v0_ r1 ∧ Below w.heap.size w w' := by
  have HR0 := Aside0.mk hr0
  have HC0 := Aside0.mk hc0
  clear hr0 hc0
  have HR1 := Aside0.mk hr1
  have HC1 := Aside0.mk hc1
  clear hr1 hc1
  have HB := Aside0.mk (Below.refl w.heap.size w)
  have H : (if (l1.length : Int) = 0 then (some (([] : List Int), 8)) else (if (l1.length : Int) > 4096 then (some (([] : List Int), 5)) else ((waybillref01_Texts.f k ([] : List Int) l1).bind fun t207 => ((waybillref02_Sum.f k t207).bind fun t210 => ((waybillref01_Copied.f l0).bind fun t211 => ((some (([(t210) % 256, (t210 / 256) % 256, (t210 / 65536) % 256, (t210 / 16777216) % 256] : List Int) : List Int)).bind fun y214 => (if t207.length + y214.length < 140737488355328 then ((some (t207 ++ y214 : List Int)).bind fun y217 => (if t211.length + y217.length < 140737488355328 then (some ((t211 ++ y217), 0)) else (none))) else (none)))))))) = some (r1, r2) := h
  clear h
  by_cases c3 : (l1.length : Int) = 0
  · rw [if_pos c3] at H
    have c3b0 : ((l1.length : Int) == 0) = true := beq_iff_eq.mpr c3
    have c3b1 : ((l1.length : Int) != 0) = false := bne_eq_false_iff_eq.mpr c3
    clear c3
    simp only [Option.some.injEq, Prod.mk.injEq] at H
    obtain ⟨rfl, rfl⟩ := H
    go_enter Try.func12, Try.ntmps12
    go_wp2
    go_ret2
    exact ⟨_, by first | rfl | (simp [errW_none, errW_some] <;> rfl) | (simp [*, errW_none, errW_some] <;> rfl), by first | exact Kd.R_nil _ _ _ _ _ | exact Kd.N_nil _ _ _ _ _ | exact Kd.V_nil _ _ _ _ _ | exact Kd.Q_nil _ _ _ _ _ | exact Kd.S_nil _ _ _ _ _, by repeat (first | (with_reducible first | exact HB.out | apply below_alloc | apply pw_below_drewN | apply below_drew1) | exact HB.out)⟩
  · rw [if_neg c3] at H
    have c3b0 : ((l1.length : Int) == 0) = false := beq_eq_false_iff_ne.mpr c3
    have c3b1 : ((l1.length : Int) != 0) = true := bne_iff_ne.mpr c3
    have c3b2 : ¬ (l1 = []) := fun h_ => c3 (by rw [h_]; rfl)
    by_cases c4 : (l1.length : Int) > 4096
    · rw [if_pos c4] at H
      have c4b0 : decide (4096 < (l1.length : Int)) = true := decide_eq_true c4
      have c4b1 : decide (4096 < l1.length) = true := decide_eq_true (by omega)
      clear c4
      simp only [Option.some.injEq, Prod.mk.injEq] at H
      obtain ⟨rfl, rfl⟩ := H
      go_enter Try.func12, Try.ntmps12
      go_wp2
      go_ret2
      exact ⟨_, by first | rfl | (simp [errW_none, errW_some] <;> rfl) | (simp [*, errW_none, errW_some] <;> rfl), by first | exact Kd.R_nil _ _ _ _ _ | exact Kd.N_nil _ _ _ _ _ | exact Kd.V_nil _ _ _ _ _ | exact Kd.Q_nil _ _ _ _ _ | exact Kd.S_nil _ _ _ _ _, by repeat (first | (with_reducible first | exact HB.out | apply below_alloc | apply pw_below_drewN | apply below_drew1) | exact HB.out)⟩
    · rw [if_neg c4] at H
      have c4b0 : decide (4096 < (l1.length : Int)) = false := decide_eq_false c4
      have c4b1 : decide (4096 < l1.length) = false := decide_eq_false (by omega)
      clear c4
      replace H := Option.bind_eq_some_iff.mp H
      obtain ⟨t207, A50, H⟩ := H
      replace H : ((waybillref02_Sum.f k t207).bind fun t210 => ((waybillref01_Copied.f l0).bind fun t211 => ((some (([(t210) % 256, (t210 / 256) % 256, (t210 / 65536) % 256, (t210 / 16777216) % 256] : List Int) : List Int)).bind fun y214 => (if t207.length + y214.length < 140737488355328 then ((some (t207 ++ y214 : List Int)).bind fun y217 => (if t211.length + y217.length < 140737488355328 then (some ((t211 ++ y217), 0)) else (none))) else (none))))) = some (r1, r2) := H
      have A5 := Aside0.mk A50
      clear A50
      replace H := Option.bind_eq_some_iff.mp H
      obtain ⟨t210, A60, H⟩ := H
      replace H : ((waybillref01_Copied.f l0).bind fun t211 => ((some (([(t210) % 256, (t210 / 256) % 256, (t210 / 65536) % 256, (t210 / 16777216) % 256] : List Int) : List Int)).bind fun y214 => (if t207.length + y214.length < 140737488355328 then ((some (t207 ++ y214 : List Int)).bind fun y217 => (if t211.length + y217.length < 140737488355328 then (some ((t211 ++ y217), 0)) else (none))) else (none)))) = some (r1, r2) := H
      have A6 := Aside0.mk A60
      clear A60
      replace H := Option.bind_eq_some_iff.mp H
      obtain ⟨t211, A70, H⟩ := H
      replace H : ((some (([(t210) % 256, (t210 / 256) % 256, (t210 / 65536) % 256, (t210 / 16777216) % 256] : List Int) : List Int)).bind fun y214 => (if t207.length + y214.length < 140737488355328 then ((some (t207 ++ y214 : List Int)).bind fun y217 => (if t211.length + y217.length < 140737488355328 then (some ((t211 ++ y217), 0)) else (none))) else (none))) = some (r1, r2) := H
      have A7 := Aside0.mk A70
      clear A70
      obtain ⟨y214, hy214⟩ : ∃ y_ : List Int, y_ = (([(t210) % 256, (t210 / 256) % 256, (t210 / 65536) % 256, (t210 / 16777216) % 256] : List Int)) := ⟨_, rfl⟩
      replace H : (if t207.length + y214.length < 140737488355328 then ((some (t207 ++ y214 : List Int)).bind fun y217 => (if t211.length + y217.length < 140737488355328 then (some ((t211 ++ y217), 0)) else (none))) else (none)) = some (r1, r2) := by first | (rw [hy214]; with_reducible exact H) | (have H2_ := (Option.bind_some _ _).symm.trans H; rw [hy214]; with_reducible exact H2_) | (have H2_ := (Option.bind_some _ _).symm.trans H; with_reducible exact H2_) | with_reducible exact H | (rw [hy214]; exact H) | exact H
      have Ny214 := Aside0.mk hy214
      clear hy214
      by_cases c8 : t207.length + y214.length < 140737488355328
      · rw [if_pos c8] at H
        have LMc8 := Aside0.mk c8
        clear c8
        obtain ⟨y217, hy217⟩ : ∃ y_ : List Int, y_ = (t207 ++ y214) := ⟨_, rfl⟩
        replace H : (if t211.length + y217.length < 140737488355328 then (some ((t211 ++ y217), 0)) else (none)) = some (r1, r2) := by first | (rw [hy217]; with_reducible exact H) | (have H2_ := (Option.bind_some _ _).symm.trans H; rw [hy217]; with_reducible exact H2_) | (have H2_ := (Option.bind_some _ _).symm.trans H; with_reducible exact H2_) | with_reducible exact H | (rw [hy217]; exact H) | exact H
        have Ny217 := Aside0.mk hy217
        clear hy217
        by_cases c9 : t211.length + y217.length < 140737488355328
        · rw [if_pos c9] at H
          have LMc9 := Aside0.mk c9
          clear c9
          obtain ⟨y220, hy220⟩ : ∃ y_ : List Int, y_ = (t211 ++ y217) := ⟨_, rfl⟩
          replace H : (some (y220, 0)) = some (r1, r2) := by first | (rw [hy220]; with_reducible exact H) | (have H2_ := (Option.bind_some _ _).symm.trans H; rw [hy220]; with_reducible exact H2_) | (have H2_ := (Option.bind_some _ _).symm.trans H; with_reducible exact H2_) | with_reducible exact H | (rw [hy220]; exact H) | exact H
          have Ny220 := Aside0.mk hy220
          clear hy220
          simp only [Option.some.injEq, Prod.mk.injEq] at H
          obtain ⟨rfl, rfl⟩ := H
          go_enter Try.func12, Try.ntmps12
          go_wp2_with (first | ((with_reducible refine gate_callee (f := 25) rfl ?_); refine goesL_ (some 17) rfl rfl Try.func25 (by kernel_rfl) rfl #[.slice none 0 0, .slice A1 l1.length c1] rfl (by (try simp only [List.map_toArray, List.map_cons, List.map_nil]); first | done | rfl | (simp only [List.length_drop, List.length_take]; rfl)) ?_; (refine (waybillref01_Texts.calls k _ _ ([] : List Int) _ _ l1 t207 _ ?side1 ?side2 ?side3 ?side4 A5.out).mono ?_); (case side1 => exact Kd.C_nil _ _); (case side2 => exact Nat.le_refl _); (case side3 => repeat (first | exact HR1.out | (with_reducible refine Kd.C_alloc ?_ _) | (with_reducible refine Kd.C_drewN ?_ _) | (with_reducible refine Kd.C_drew ?_))); (case side4 => exact HC1.out); rintro e w10 ⟨v208, rfl, ho0, hb⟩; refine ⟨_, rfl, ?_⟩; have n0_ := Aside0.mk (Kd.R_lower ho0 (below_size (by repeat (first | (with_reducible first | exact HB.out | apply below_alloc | apply pw_below_drewN | apply below_drew1) | exact HB.out)))); have n1_ := Aside0.mk (below_step (by repeat (first | (with_reducible first | exact HB.out | apply below_alloc | apply pw_below_drewN | apply below_drew1) | exact HB.out)) hb); clear HB; have HO209 := n0_; have HB := n1_; clear n0_ n1_; (try clear hb); (try clear hb2); (try clear hk); (try clear hi); (try clear ho0); obtain ⟨Ao11, co11, eo11⟩ := Kd.R_slice HO209.out; subst eo11) | ((with_reducible refine gate_callee (f := 26) rfl ?_); refine goesL_ (some 19) rfl rfl Try.func26 (by kernel_rfl) rfl #[.slice Ao11 t207.length co11] rfl (by (try simp only [List.map_toArray, List.map_cons, List.map_nil]); first | done | rfl | (simp only [List.length_drop, List.length_take]; rfl)) ?_; (with_reducible refine (waybillref02_Sum.calls k _ _ t207 t210 _ ?side1 ?side2 A6.out).mono ?_); (case side1 => repeat (first | exact (Kd.R_reads' HO209.out).2.2 | (with_reducible refine Kd.C_alloc ?_ _) | (with_reducible refine Kd.C_drewN ?_ _) | (with_reducible refine Kd.C_drew ?_))); (case side2 => exact (Kd.R_reads' HO209.out).2.1); rintro e w' ⟨rfl, ⟨nd, rfl⟩⟩; refine ⟨_, rfl, ?_⟩) | ((with_reducible refine gate_callee (f := 27) rfl ?_); refine goesL_ (some 21) rfl rfl Try.func27 (by kernel_rfl) rfl #[.slice A0 l0.length c0] rfl (by (try simp only [List.map_toArray, List.map_cons, List.map_nil]); first | done | rfl | (simp only [List.length_drop, List.length_take]; rfl)) ?_; (with_reducible refine (waybillref01_Copied.calls _ _ l0 t211 _ ?side1 ?side2 A7.out).mono ?_); (case side1 => repeat (first | exact (Kd.C_below HR0.out (by repeat (first | (with_reducible first | exact HB.out | apply below_alloc | apply pw_below_drewN | apply below_drew1) | exact HB.out))) | (with_reducible refine Kd.C_alloc ?_ _) | (with_reducible refine Kd.C_drewN ?_ _) | (with_reducible refine Kd.C_drew ?_))); (case side2 => exact HC0.out); rintro e w12 ⟨v212, rfl, ho0, hb⟩; refine ⟨_, rfl, ?_⟩; have n0_ := Aside0.mk (Kd.R_elder' (by (with_reducible repeat (first | apply Kd.R_alloc | apply Kd.R_drewN | apply Kd.R_drew)); exact HO209.out) (Kd.R_base ho0) hb); have n1_ := Aside0.mk (Kd.R_lower (Kd.R_new' ho0 (Kd.R_lt (by (with_reducible repeat (first | apply Kd.R_alloc | apply Kd.R_drewN | apply Kd.R_drew)); exact HO209.out))) (below_size (by repeat (first | (with_reducible first | exact HB.out | apply below_alloc | apply pw_below_drewN | apply below_drew1) | exact HB.out)))); have n2_ := Aside0.mk (below_step (by repeat (first | (with_reducible first | exact HB.out | apply below_alloc | apply pw_below_drewN | apply below_drew1) | exact HB.out)) hb); clear HO209; clear HB; have HO209 := n0_; have HO213 := n1_; have HB := n2_; clear n0_ n1_ n2_; (try clear hb); (try clear hb2); (try clear hk); (try clear hi); (try clear ho0)) | ((with_reducible refine gate_dst (N := 34) rfl ?_); refine Kd.R_lit (Kd.int .u8) _ 5 ?hg (N := 34) ?hd (xs := ([(t210) % 256, (t210 / 256) % 256, (t210 / 65536) % 256, (t210 / 16777216) % 256] : List Int)) (inner := [.int .u8 ((t210) % 256), .int .u8 ((t210 / 256) % 256), .int .u8 ((t210 / 65536) % 256), .int .u8 ((t210 / 16777216) % 256)]) (ok := fun _ => True) (okp := fun _ => True) ?hr ?hp (fun _ hk => hk) trivial (Below.refl _ _) (Nat.le_refl _) (by simp) ?_; (case hd => rfl); (case hg => rfl); (case hr => first | (go_simp; done) | (go_simp; rfl)); (case hp => exact (Reps.one (show Kd.M (Kd.int .u8) _ _ _ ((t210) % 256) [.int .u8 ((t210) % 256)] from rfl) (Reps.one (show Kd.M (Kd.int .u8) _ _ _ ((t210 / 256) % 256) [.int .u8 ((t210 / 256) % 256)] from rfl) (Reps.one (show Kd.M (Kd.int .u8) _ _ _ ((t210 / 65536) % 256) [.int .u8 ((t210 / 65536) % 256)] from rfl) (Reps.one (show Kd.M (Kd.int .u8) _ _ _ ((t210 / 16777216) % 256) [.int .u8 ((t210 / 16777216) % 256)] from rfl) (Reps.none _ _)))))); intro v215 w13 ho14 hb hg_ hnew_; clear hg_ hnew_; (first | rw [← Ny214.out] at ho14 | (simp only [Int.reduceToNat] at ho14; rw [← Ny214.out] at ho14)); have n0_ := Aside0.mk (Kd.R_elder' (by (with_reducible repeat (first | apply Kd.R_alloc | apply Kd.R_drewN | apply Kd.R_drew)); exact HO209.out) (Kd.R_base ho14) hb); have n1_ := Aside0.mk (Kd.R_elder' (by (with_reducible repeat (first | apply Kd.R_alloc | apply Kd.R_drewN | apply Kd.R_drew)); exact HO213.out) (Kd.R_base ho14) hb); have n2_ := Aside0.mk (Kd.R_lower (Kd.R_new' (Kd.R_new' ho14 (Kd.R_lt (by (with_reducible repeat (first | apply Kd.R_alloc | apply Kd.R_drewN | apply Kd.R_drew)); exact HO209.out))) (Kd.R_lt (by (with_reducible repeat (first | apply Kd.R_alloc | apply Kd.R_drewN | apply Kd.R_drew)); exact HO213.out))) (below_size (by repeat (first | (with_reducible first | exact HB.out | apply below_alloc | apply pw_below_drewN | apply below_drew1) | exact HB.out)))); have n3_ := Aside0.mk (below_step (by repeat (first | (with_reducible first | exact HB.out | apply below_alloc | apply pw_below_drewN | apply below_drew1) | exact HB.out)) hb); clear HO209; clear HO213; clear HB; have HO209 := n0_; have HO213 := n1_; have HO216 := n2_; have HB := n3_; clear n0_ n1_ n2_ n3_; clear hb ho14; obtain ⟨Ao16, co16, eo16⟩ := Kd.R_slice HO216.out; subst eo16) | ((with_reducible refine gate_builtin (b := .append) (xs := #[.tmp 22, .tmp 34]) rfl ?_); at_builtin; refine Kd.R_append_rows (Kd.int .u8) (w0 := w) w.heap.size rfl (.tmp 22) (.tmp 34) 22 5 (.int .u8 0) 1 rfl Try.underlying22 info5 rfl (by decide) (by omega) (.slice Ao11 t207.length co11) t207 y214 _ _ _ (fun k_ => some k_ ≠ (v212 : Value).ownBlock ∧ some k_ ≠ (.slice Ao16 y214.length co16 : Value).ownBlock) (fun _ => False) rfl rfl ?aO ?aR (fun _ _ h => h) (fun _ h => h.elim) ?aF ?aB ?aS ?aL ?_; (case aR => repeat (first | exact (Kd.R_reads' HO216.out).2.2 | (with_reducible refine Kd.C_alloc ?_ _) | (with_reducible refine Kd.C_drewN ?_ _) | (with_reducible refine Kd.C_drew ?_))); (case aB => exact (by repeat (first | (with_reducible first | exact HB.out | apply below_alloc | apply pw_below_drewN | apply below_drew1) | exact HB.out))); (case aF => exact (fun k_ hk => ⟨Kd.fresh' (Kd.R_lt (by (with_reducible repeat (first | apply Kd.R_alloc | apply Kd.R_drewN | apply Kd.R_drew)); exact HO213.out)) k_ hk, Kd.fresh' (Kd.R_lt (by (with_reducible repeat (first | apply Kd.R_alloc | apply Kd.R_drewN | apply Kd.R_drew)); exact HO216.out)) k_ hk⟩)); (case aO => exact (by (with_reducible repeat (first | apply Kd.R_alloc | apply Kd.R_drewN | apply Kd.R_drew)); exact Kd.R_mono HO209.out (fun _ hk => ⟨hk.1.2, hk.2⟩))); (case aS => exact (below_size (by repeat (first | (with_reducible first | exact HB.out | apply below_alloc | apply pw_below_drewN | apply below_drew1) | exact HB.out)))); (case aL => have := LMc8.out; omega); intro v218 w15 ho hb hg hat; rw [← Ny217.out] at ho; have n0_ := Aside0.mk (Kd.R_after (ok := (fun k_ => some k_ ≠ (.slice Ao16 y214.length co16 : Value).ownBlock)) (by (with_reducible repeat (first | apply Kd.R_alloc | apply Kd.R_drewN | apply Kd.R_drew)); exact Kd.R_mono HO213.out (fun _ hk => ⟨hk.2, hk.1.2⟩)) hg hat); have n1_ := Aside0.mk (Kd.R_after (ok := (fun k_ => some k_ ≠ (v212 : Value).ownBlock)) (by (with_reducible repeat (first | apply Kd.R_alloc | apply Kd.R_drewN | apply Kd.R_drew)); exact Kd.R_mono HO216.out (fun _ hk => ⟨hk.2, hk.1.2⟩)) hg hat); have n2_ := Aside0.mk (hb); have n3_ := Aside0.mk (ho); clear HO213; clear HO216; clear HB; clear HO209; have HO213 := n0_; have HO216 := n1_; have HB := n2_; have HO219 := n3_; clear n0_ n1_ n2_ n3_; clear ho hb hg hat; obtain ⟨Ao18, co18, eo18⟩ := Kd.R_slice HO219.out; subst eo18) | ((with_reducible refine gate_builtin (b := .append) (xs := #[.tmp 21, .tmp 35]) rfl ?_); at_builtin; refine Kd.R_append_rows (Kd.int .u8) (w0 := w) w.heap.size rfl (.tmp 21) (.tmp 35) 22 5 (.int .u8 0) 1 rfl Try.underlying22 info5 rfl (by decide) (by omega) v212 t211 y217 _ _ _ (fun k_ => some k_ ≠ (.slice Ao16 y214.length co16 : Value).ownBlock ∧ some k_ ≠ (.slice Ao18 y217.length co18 : Value).ownBlock) (fun _ => False) rfl rfl ?aO ?aR (fun _ _ h => h) (fun _ h => h.elim) ?aF ?aB ?aS ?aL ?_; (case aR => repeat (first | exact (Kd.R_reads' HO219.out).2.2 | (with_reducible refine Kd.C_alloc ?_ _) | (with_reducible refine Kd.C_drewN ?_ _) | (with_reducible refine Kd.C_drew ?_))); (case aB => exact (by repeat (first | (with_reducible first | exact HB.out | apply below_alloc | apply pw_below_drewN | apply below_drew1) | exact HB.out))); (case aF => exact (fun k_ hk => ⟨Kd.fresh' (Kd.R_lt (by (with_reducible repeat (first | apply Kd.R_alloc | apply Kd.R_drewN | apply Kd.R_drew)); exact HO216.out)) k_ hk, Kd.fresh' (Kd.R_lt (by (with_reducible repeat (first | apply Kd.R_alloc | apply Kd.R_drewN | apply Kd.R_drew)); exact HO219.out)) k_ hk⟩)); (case aO => exact (by (with_reducible repeat (first | apply Kd.R_alloc | apply Kd.R_drewN | apply Kd.R_drew)); exact HO213.out)); (case aS => exact (below_size (by repeat (first | (with_reducible first | exact HB.out | apply below_alloc | apply pw_below_drewN | apply below_drew1) | exact HB.out)))); (case aL => have := LMc9.out; omega); intro v221 w17 ho hb hg hat; rw [← Ny220.out] at ho; have n0_ := Aside0.mk (Kd.R_after (ok := (fun k_ => some k_ ≠ (.slice Ao18 y217.length co18 : Value).ownBlock)) (by (with_reducible repeat (first | apply Kd.R_alloc | apply Kd.R_drewN | apply Kd.R_drew)); exact Kd.R_mono HO216.out (fun _ hk => ⟨hk.2, hk.1⟩)) hg hat); have n1_ := Aside0.mk (Kd.R_after (ok := (fun k_ => some k_ ≠ (.slice Ao16 y214.length co16 : Value).ownBlock)) (by (with_reducible repeat (first | apply Kd.R_alloc | apply Kd.R_drewN | apply Kd.R_drew)); exact Kd.R_mono HO219.out (fun _ hk => ⟨hk.2, hk.1⟩)) hg hat); have n2_ := Aside0.mk (hb); have n3_ := Aside0.mk (ho); clear HO216; clear HO219; clear HB; clear HO213; have HO216 := n0_; have HO219 := n1_; have HB := n2_; have HO222 := n3_; clear n0_ n1_ n2_ n3_; clear ho hb hg hat))
          go_ret2
          exact ⟨_, by first | rfl | (simp [errW_none, errW_some] <;> rfl) | (simp [*, errW_none, errW_some] <;> rfl), by (with_reducible repeat (first | apply Kd.R_alloc | apply Kd.R_drewN | apply Kd.R_drew)); exact Kd.R_mono HO222.out (fun _ hk => trivial), by repeat (first | (with_reducible first | exact HB.out | apply below_alloc | apply pw_below_drewN | apply below_drew1) | exact HB.out)⟩
        · rw [if_neg c9] at H
          exact absurd H (by simp)
      · rw [if_neg c8] at H
        exact absurd H (by simp)
end Go.Proofs.Ytmbaooocjoaehaa.G
end

section
namespace Go.Proofs.Ytmbaooocjoaehaa.G
open WB Go.RowKit Go.Proofs.YtmbaooocjoaehaaW.PrintWords Go.Proofs.YtmbaooocjoaehaaW.PrintLast Go.Proofs.YtmbaooocjoaehaaW.PrintMore
attribute [local go_sem] max2_int min2_int max_two min_two max_three min_three max_four min_four   -- for this text's walks alone
set_option linter.unusedVariables false
set_option linter.unusedSimpArgs false
def waybillref01_Get.f (l0 : List Int) (a1 : Int) : Option (Int × Int × Int) := if octetsOk l0 = true then some (getAt l0 a1) else none
set_option maxHeartbeats 2000000 in
set_option maxRecDepth 100000 in
theorem waybillref01_Get.calls (A0 : Option Addr) (c0 : Nat) (l0 : List Int) (a1 : Int) (r1 : Int) (r2 : Int) (r3 : Int) (w : World) (hr0 : Kd.C (Kd.int .u8) w A0 l0.length l0) (hc0 : l0.length ≤ c0) (h : waybillref01_Get.f l0 a1 = some (r1, r2, r3)) :
    Calls Try.prog 28 #[.slice A0 l0.length c0, .int .i64 a1] w fun e w' => e = .returned (.tuple #[.int .u64 r1, .int .i64 r2, .int .i64 r3]) ∧ Drawn0 w w' := by
  unfold waybillref01_Get.f at h
  split at h
  case isFalse => cases h
  case isTrue wf =>
  have hget := Option.some.inj h
  clear h
  by_cases hneg : a1 < 0
  · have e : getAt l0 a1 = (0, 0, 4) := by unfold getAt; rw [if_pos (Or.inl hneg)]
    rw [e] at hget
    obtain ⟨rfl, rfl, rfl⟩ : 0 = r1 ∧ 0 = r2 ∧ 4 = r3 := by simpa using hget
    have b0 : decide (a1 < 0) = true := decide_eq_true hneg
    clear hr0 hc0 hget e hneg wf
    go_enter Try.func28, Try.ntmps28
    go_wp2
    go_ret3
    exact ⟨rfl, Drawn0.refl _⟩
  by_cases hbig : (l0.length : Int) < a1
  · have e : getAt l0 a1 = (0, 0, 4) := by unfold getAt; rw [if_pos (Or.inr hbig)]
    rw [e] at hget
    obtain ⟨rfl, rfl, rfl⟩ : 0 = r1 ∧ 0 = r2 ∧ 4 = r3 := by simpa using hget
    have b0 : decide (a1 < 0) = false := decide_eq_false hneg
    have b1 : decide ((l0.length : Int) < a1) = true := decide_eq_true hbig
    clear hr0 hc0 hget e hneg wf hbig
    go_enter Try.func28, Try.ntmps28
    go_wp2
    go_ret3
    exact ⟨rfl, Drawn0.refl _⟩
  obtain ⟨n, rfl⟩ := Int.eq_ofNat_of_zero_le (Int.not_lt.mp hneg)
  have hn : n ≤ l0.length := by omega
  have HG : Aside0 ((match getB (l0.drop n) 0 0 with | (q, m, 0) => (q, (n : Int) + m, 0) | (_, _, e) => (0, 0, e)) = (r1, r2, r3)) := ⟨by
    rw [← hget]; unfold getAt; rw [if_neg (by omega)]; rfl⟩
  have hlen0 : l0.length ≤ 9223372036854775807 := hr0.2.1
  have HR := Aside0.mk hr0
  have HW := Aside0.mk wf
  have b0 : decide ((n : Int) < 0) = false := decide_eq_false hneg
  have b1 : decide (l0.length < n) = false := decide_eq_false (by omega)
  clear hr0 hc0 hget hneg wf hbig
  go_enter Try.func28, Try.ntmps28
  go_wp2
  go_loop [1, 7, 8, 9] (fun v1 v7 v8 v9 => ∃ (i : Nat) (acc : Int), v1 = .int .i64 ((n : Int) + i) ∧ v7 = .int .u64 acc ∧ v8 = .int .u64 (128 ^ i) ∧ v9 = .int .i64 i ∧ i ≤ 9 ∧ Aside0 (n + i ≤ l0.length) ∧ 0 ≤ acc ∧ Aside0 (acc < 128 ^ i) ∧ Aside0 (getB (l0.drop n) 0 0 = getB (l0.drop (n + i)) i acc)) (fun _ _ _ v9 => 10 - (intOf v9).toNat)
  case atStart => exact ⟨0, 0, by simp, rfl, rfl, rfl, by omega, ⟨by omega⟩, by omega, ⟨by simp⟩, ⟨by simp⟩⟩
  case round =>
    obtain ⟨i, acc, rfl, rfl, rfl, rfl, hi, HI, hacc, HA, HB⟩ := hrel
    by_cases hlt : n + i < l0.length
    · obtain ⟨ad, e1, hcell⟩ := Kd.at_int HR.out ((n : Int) + i) (by omega) (by omega)
      rw [show ((n : Int) + i).toNat = n + i by omega] at hcell
      have hw := octetsOk_get HW.out (n + i)
      have hrd : rd l0 ((n : Int) + i) = l0.getD (n + i) 0 := by simp [rd, show ((n : Int) + i).toNat = n + i by omega]
      rw [hrd] at hcell
      obtain ⟨c, hc⟩ : ∃ c, c = l0.getD (n + i) 0 := ⟨_, rfl⟩
      rw [← hc] at hcell hw
      have HD : Aside0 (l0.drop (n + i) = c :: l0.drop (n + i + 1)) := ⟨by
        rw [List.drop_eq_getElem_cons hlt, hc, List.getD_eq_getElem?_getD, List.getElem?_eq_getElem hlt]; rfl⟩
      have h0 : 0 ≤ c := hw.1
      have h1 : c < 256 := hw.2
      clear hw hrd hc
      have b2 : ((n : Int) + i == l0.length) = false := by rw [beq_eq_false_iff_ne]; omega
      have b3 : ((i : Int) == 10) = false := by rw [beq_eq_false_iff_ne]; omega
      have hnat : ((n : Int) + i).toNat = n + i := by omega
      subst e1
      have HJ := fun h9 => Aside0.mk (add_join_ i acc (c % 128) hacc HA.out (by omega) (by omega) hi h9)
      have HN : Aside0 (getB (l0.drop (n + i)) i acc = if c < 128 ∧ (0 < c ∨ i = 0) ∧ (i < 9 ∨ c = 1) then (acc + c * 128 ^ i, i + 1, 0) else if c < 128 ∨ i = 9 then (0, 0, 21) else getB (l0.drop (n + i + 1)) (i + 1) (acc + (c % 128) * 128 ^ i)) := ⟨by rw [HD.out]; rfl⟩
      by_cases hS : c < 128 ∧ (0 < c ∨ i = 0) ∧ (i < 9 ∨ c = 1)
      · have hJ := (HJ (by omega)).out
        have HE : Aside0 ((acc + c % 128 * 128 ^ i, (n : Int) + i + 1, 0) = (r1, r2, r3)) := ⟨by
          have := HG.out
          rw [HB.out, HN.out, if_pos hS] at this
          simp only at this
          rw [← this, show c % 128 = c by omega]
          rw [show (n : Int) + ((i + 1 : Nat) : Int) = n + i + 1 by omega]⟩
        have HJ' := Aside0.mk hJ
        clear hJ HJ HN HB HG HD
        obtain ⟨hS1, hS2, hS3⟩ := hS
        go_wp2
        all_goals first | (exfalso; omega) | (exfalso; simp only [beq_eq_false_iff_ne, ne_eq, beq_iff_eq, Bool.not_eq_false', Bool.not_eq_true', decide_eq_true_eq, decide_eq_false_iff_not] at *; omega) | skip
        all_goals
          have hE := HE.out
          simp only [Prod.mk.injEq] at hE
          obtain ⟨e1, e2, e3⟩ := hE
          subst e1 e2 e3
          go_ret3
          exact ⟨by first | (simp [HJ'.out.1]; done) | (simp [HJ'.out.1]; omega) | (have hz := HJ'.out.1; rw [show c % 128 = 0 by omega] at hz ⊢; have w0 : IntKind.u64.wrap 0 = 0 := (by rfl); simpa [w0] using hz), Drawn0.refl _⟩
      · by_cases hE : c < 128 ∨ i = 9
        · have HE : Aside0 ((0, 0, 21) = (r1, r2, r3)) := ⟨by
            have := HG.out
            rw [HB.out, HN.out, if_neg hS, if_pos hE] at this
            simpa using this⟩
          clear HJ HN HB HG HD
          go_wp2
          all_goals first | (exfalso; omega) | (exfalso; simp only [beq_eq_false_iff_ne, ne_eq, beq_iff_eq, Bool.not_eq_false', Bool.not_eq_true', decide_eq_true_eq, decide_eq_false_iff_not] at *; omega) | skip
          all_goals
            have hE := HE.out
            simp only [Prod.mk.injEq] at hE
            obtain ⟨e1, e2, e3⟩ := hE
            subst e1 e2 e3
            go_ret3
            exact ⟨rfl, Drawn0.refl _⟩
        · have hJ := (HJ (by omega)).out
          have HE : Aside0 (getB (l0.drop n) 0 0 = getB (l0.drop (n + (i + 1))) (i + 1) (acc + c % 128 * 128 ^ i)) := ⟨by rw [HB.out, HN.out, if_neg hS, if_neg hE]; rfl⟩
          have HJ' := Aside0.mk hJ
          clear hJ HJ HN HB HD
          have hi9 : i < 9 := by omega
          have hc128 : 128 ≤ c := by omega
          clear hS hE
          go_wp2
          go_round
          case rel => exact ⟨i + 1, acc + c % 128 * 128 ^ i, by go_num, by rw [HJ'.out.1], by rw [HJ'.out.2.2.2 hi9], by go_num, by omega, ⟨by omega⟩, HJ'.out.2.2.1, ⟨HJ'.out.2.1 hi9⟩, HE⟩
          case measure => simp [intOf]; omega
    · have b2 : ((n : Int) + i == l0.length) = true := by rw [beq_iff_eq]; have := HI.out; omega
      have b3 : ((i : Int) == 10) = false := by rw [beq_eq_false_iff_ne]; omega
      have HE : Aside0 ((0, 0, 8) = (r1, r2, r3)) := ⟨by
        have := HG.out
        rw [HB.out, List.drop_of_length_le (by omega)] at this
        simpa [getB] using this⟩
      clear HB HG
      go_wp2
      have hE := HE.out
      simp only [Prod.mk.injEq] at hE
      obtain ⟨e1, e2, e3⟩ := hE
      subst e1 e2 e3
      go_ret3
      exact ⟨rfl, Drawn0.refl _⟩
end Go.Proofs.Ytmbaooocjoaehaa.G
end
