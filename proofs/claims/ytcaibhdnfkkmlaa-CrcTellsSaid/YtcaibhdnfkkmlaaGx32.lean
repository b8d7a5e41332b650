-- Made by wip/tools/xprint.py (over the kit's print program) for this claim.
import Derived.Test.YtcaibhdnfkkmlaaGx0
namespace Go.Proofs.Ytcaibhdnfkkmlaa.G
open WB Go.RowKit Go.Proofs.YtcaibhdnfkkmlaaW.PrintWords Go.Proofs.YtcaibhdnfkkmlaaW.PrintLast Go.Proofs.YtcaibhdnfkkmlaaW.PrintMore
attribute [local go_sem] max2_int min2_int max_two min_two max_three min_three max_four min_four   -- for this text's walks alone
set_option linter.unusedVariables false
set_option linter.unusedSimpArgs false

/-! ### waybillref02_Back: function 22 -/
mutual
def waybillref02_Back.l0 : Nat → Int → List Int → Int → Option (Int)
  | 0, _, _, _ => none
  | k + 1, x0, x1, x5 => if x5 ≥ 0 then (waybillref02_Back.l1 k x0 x1 x5 7) else (some (Go.bits .xor .u32 4294967295 x0))
def waybillref02_Back.l1 : Nat → Int → List Int → Int → Int → Option (Int)
  | 0, _, _, _, _ => none
  | k + 1, x0, x1, x5, x6 => if x6 ≥ 0 then (if (x0 / 2147483648) = 1 then (if 0 ≤ x5 then (if x5 < (x1.length : Int) then (if 0 ≤ x6 then (if (((x0 / 2147483648) == 1) != ((Go.bits .and .u8 (shr .u8 (rd x1 x5) x6) 1) == 1)) = true then (waybillref02_Back.l1 k (Go.bits .or .u32 (((Go.bits .xor .u32 x0 3988292384) * 2) % 4294967296) 1) x1 x5 (wrap64 (x6 - 1))) else (waybillref02_Back.l1 k (((Go.bits .xor .u32 x0 3988292384) * 2) % 4294967296) x1 x5 (wrap64 (x6 - 1)))) else (none)) else (none)) else (none)) else (if 0 ≤ x5 then (if x5 < (x1.length : Int) then (if 0 ≤ x6 then (if (((x0 / 2147483648) == 1) != ((Go.bits .and .u8 (shr .u8 (rd x1 x5) x6) 1) == 1)) = true then (waybillref02_Back.l1 k (Go.bits .or .u32 ((x0 * 2) % 4294967296) 1) x1 x5 (wrap64 (x6 - 1))) else (waybillref02_Back.l1 k ((x0 * 2) % 4294967296) x1 x5 (wrap64 (x6 - 1)))) else (none)) else (none)) else (none))) else (waybillref02_Back.l0 k x0 x1 (wrap64 (x5 - 1)))
end
def waybillref02_Back.f (k : Nat) (a0 : Int) (l1 : List Int) : Option (Int) := waybillref02_Back.l0 k (Go.bits .xor .u32 4294967295 a0) l1 (wrap64 ((l1.length : Int) - 1))
theorem waybillref02_Back.mono_l : ∀ k, (∀ y0 y1 y2, LeO (waybillref02_Back.l0 k y0 y1 y2) (waybillref02_Back.l0 (k + 1) y0 y1 y2)) ∧ (∀ y0 y1 y2 y3, LeO (waybillref02_Back.l1 k y0 y1 y2 y3) (waybillref02_Back.l1 (k + 1) y0 y1 y2 y3))
  | 0 => ⟨fun _ _ _ r h => by simp [waybillref02_Back.l0] at h, fun _ _ _ _ r h => by simp [waybillref02_Back.l1] at h⟩
  | k + 1 => by
    obtain ⟨ih0, ih1⟩ := waybillref02_Back.mono_l k
    refine ⟨?_, ?_⟩
    · intro y0 y1 y2
      unfold waybillref02_Back.l0
      repeat' first
      | (with_reducible exact ih0 _ _ _)
      | (with_reducible exact ih1 _ _ _ _)
      | (with_reducible exact LeO.refl _)
      | (with_reducible exact LeO.none _)
      | (with_reducible refine LeO.ite ?_ ?_)
      | (with_reducible refine LeO.bind ?_ (fun _ => ?_))
      | exact ih0 _ _ _
      | exact ih1 _ _ _ _
      | exact LeO.none _
      | refine LeO.ite ?_ ?_
      | refine LeO.bind ?_ (fun _ => ?_)
    · intro y0 y1 y2 y3
      unfold waybillref02_Back.l1
      repeat' first
      | (with_reducible exact ih0 _ _ _)
      | (with_reducible exact ih1 _ _ _ _)
      | (with_reducible exact LeO.refl _)
      | (with_reducible exact LeO.none _)
      | (with_reducible refine LeO.ite ?_ ?_)
      | (with_reducible refine LeO.bind ?_ (fun _ => ?_))
      | exact ih0 _ _ _
      | exact ih1 _ _ _ _
      | exact LeO.none _
      | refine LeO.ite ?_ ?_
      | refine LeO.bind ?_ (fun _ => ?_)
theorem waybillref02_Back.mono : ∀ a0 a1 k, LeO (waybillref02_Back.f k a0 a1) (waybillref02_Back.f (k + 1) a0 a1) := by
  intro a0 a1 k
  obtain ⟨ih0, ih1⟩ := waybillref02_Back.mono_l k
  unfold waybillref02_Back.f
  repeat' first
      | (with_reducible exact ih0 _ _ _)
      | (with_reducible exact ih1 _ _ _ _)
      | (with_reducible exact LeO.refl _)
      | (with_reducible exact LeO.none _)
      | (with_reducible refine LeO.ite ?_ ?_)
      | (with_reducible refine LeO.bind ?_ (fun _ => ?_))
      | exact ih0 _ _ _
      | exact ih1 _ _ _ _
      | exact LeO.none _
      | refine LeO.ite ?_ ?_
      | refine LeO.bind ?_ (fun _ => ?_)
set_option maxHeartbeats 8000000 in
set_option maxRecDepth 100000 in
theorem waybillref02_Back.calls (k : Nat) (a0 : Int) (A1 : Option Addr) (c1 : Nat) (l1 : List Int) (r : Int) (w : World) (hr1 : Kd.C (Kd.int .u8) w A1 l1.length l1) (hc1 : l1.length ≤ c1) (h : waybillref02_Back.f k a0 l1 = some r) :
    Calls Try.prog 22 #[.int .u32 a0, .slice A1 l1.length c1] w fun e w' => e = .returned (.int .u32 r) ∧ Drawn0 w w' := by
  have HR1 := Aside0.mk hr1
  have HC1 := Aside0.mk hc1
  clear hr1 hc1
  have H : (waybillref02_Back.l0 k (Go.bits .xor .u32 4294967295 a0) l1 (wrap64 ((l1.length : Int) - 1))) = some r := h
  clear h
  have H' := Aside0.mk H
  clear H
  have hsg_u32 : Go.IntKind.u32.signed = false := rfl
  have hmx_u32 : Go.IntKind.u32.max = 4294967295 := rfl
  go_enter Try.func22, Try.ntmps22
  go_wp2
  go_loopg [0, 5] k (fun kq v0 v5 w' => ∃ (x0_1 : Int) (x5_1 : Int), v0 = .int .u32 x0_1 ∧ v5 = .int .i64 x5_1 ∧ Aside0 (waybillref02_Back.l0 kq x0_1 l1 x5_1 = some r) ∧ Aside0 (kq ≤ k) ∧ Drawn0 w w')
  case atStart => exact ⟨(Go.bits .xor .u32 4294967295 a0), (wrap64 ((l1.length : Int) - 1)), (by first | rfl | (simp; done) | (simp [*]; done)), (by first | rfl | (simp; done) | (simp [*]; done)), H', ⟨Nat.le_refl _⟩, by repeat (first | exact Drawn0.refl _ | apply Drawn0.step)⟩
  case round =>
    clear H'
    try clear c1
    try clear c2
    try clear p2
    obtain ⟨x0_1, x5_1, rfl, rfl, HA, HK1, ⟨m1, rfl⟩⟩ := hrel
    cases gk with
    | zero => exact absurd HA.out (by simp [waybillref02_Back.l0])
    | succ k1 =>
      have H := HA.out
      clear HA
      simp only [waybillref02_Back.l0] at H
      by_cases c3 : x5_1 ≥ 0
      · rw [if_pos c3] at H
        have c3b0 : decide (0 ≤ x5_1) = true := decide_eq_true c3
        clear c3
        have H' := Aside0.mk H
        clear H
        go_wp2
        go_loopg [0, 6] k1 (fun kq v0 v6 w' => ∃ (x0_2 : Int) (x6_2 : Int), v0 = .int .u32 x0_2 ∧ v6 = .int .i64 x6_2 ∧ Aside0 (waybillref02_Back.l1 kq x0_2 l1 x5_1 x6_2 = some r) ∧ Aside0 (kq ≤ k1) ∧ Drawn0 w w')
        case atStart => exact ⟨(x0_1), (7), (by first | rfl | (simp; done) | (simp [*]; done)), (by first | rfl | (simp; done) | (simp [*]; done)), H', ⟨Nat.le_refl _⟩, by repeat (first | exact Drawn0.refl _ | apply Drawn0.step)⟩
        case round =>
          clear H'
          try clear c1
          try clear c2
          try clear p2
          try clear c3
          try clear c3b0
          try clear p2
          obtain ⟨x0_2, x6_2, rfl, rfl, HA, HK2, ⟨m2, rfl⟩⟩ := hrel
          cases gk with
          | zero => exact absurd HA.out (by simp [waybillref02_Back.l1])
          | succ k2 =>
            have H := HA.out
            clear HA
            simp only [waybillref02_Back.l1] at H
            by_cases c4 : x6_2 ≥ 0
            · rw [if_pos c4] at H
              have c4b0 : decide (0 ≤ x6_2) = true := decide_eq_true c4
              clear c4
              by_cases c5 : (x0_2 / 2147483648) = 1
              · rw [if_pos c5] at H
                have c5b0 : ((x0_2 / 2147483648) == 1) = true := beq_iff_eq.mpr c5
                have c5b1 : ((x0_2 / 2147483648) != 1) = false := bne_eq_false_iff_eq.mpr c5
                clear c5
                by_cases c6 : 0 ≤ x5_1
                · rw [if_pos c6] at H
                  have c6b0 : decide (0 ≤ x5_1) = true := decide_eq_true c6
                  clear c6
                  by_cases c7 : x5_1 < (l1.length : Int)
                  · rw [if_pos c7] at H
                    have c7b0 : decide (x5_1 < (l1.length : Int)) = true := decide_eq_true c7
                    clear c7
                    by_cases c8 : 0 ≤ x6_2
                    · rw [if_pos c8] at H
                      have c8b0 := eq_true c8
                      have c8b1 : decide (0 ≤ x6_2) = true := decide_eq_true c8
                      clear c8
                      obtain ⟨ji9, hji9⟩ : ∃ j_ : Int, (shr .u8 (rd l1 x5_1) x6_2) = j_ := ⟨_, rfl⟩
                      replace H : (if (((x0_2 / 2147483648) == 1) != ((Go.bits .and .u8 (ji9) 1) == 1)) = true then (waybillref02_Back.l1 k2 (Go.bits .or .u32 (((Go.bits .xor .u32 x0_2 3988292384) * 2) % 4294967296) 1) l1 x5_1 (wrap64 (x6_2 - 1))) else (waybillref02_Back.l1 k2 (((Go.bits .xor .u32 x0_2 3988292384) * 2) % 4294967296) l1 x5_1 (wrap64 (x6_2 - 1)))) = some r := by first | (rw [hji9] at H; exact H) | (simp only [hji9] at H ⊢; exact H)
                      have hji9_ : ((rd l1 x5_1) / 2 ^ min x6_2.toNat 8) = ji9 := hji9
                      have hji9z : x6_2 ≤ 8 → ((rd l1 x5_1) / 2 ^ x6_2.toNat) = ji9 := shr_small hji9
                      by_cases c10 : (((x0_2 / 2147483648) == 1) != ((Go.bits .and .u8 (ji9) 1) == 1)) = true
                      · rw [if_pos c10] at H
                        have c10b0 : (((x0_2 / 2147483648) == 1) != ((Go.bits .and .u8 (ji9) 1) == 1)) = true := c10
                        (try (have c10b1 : decide (((x0_2 / 2147483648) == 1) = ((Go.bits .and .u8 (ji9) 1) == 1)) = false := by simpa using c10))
                        (try (have c10b2 : (((x0_2 / 2147483648) == 1) == ((Go.bits .and .u8 (ji9) 1) == 1)) = false := by simpa using c10))
                        (try (have c10b3 : ¬ (((x0_2 / 2147483648) == 1) = ((Go.bits .and .u8 (ji9) 1) == 1)) := by simpa using c10))
                        (try (have c10b4 : ((x0_2 / 2147483648) == 1) = true := by revert c10; simp [*]))
                        (try (have c10b5 : ((x0_2 / 2147483648) == 1) = false := by revert c10; simp [*]))
                        (try (have c10b6 : ((Go.bits .and .u8 (ji9) 1) == 1) = true := by revert c10; simp [*]))
                        (try (have c10b7 : ((Go.bits .and .u8 (ji9) 1) == 1) = false := by revert c10; simp [*]))
                        clear c10
                        have H' := Aside0.mk H
                        clear H
                        have p208 : 0 ≤ (x5_1 : Int) := of_decide_eq_true (by first | (with_reducible assumption) | assumption)
                        have q208 : x5_1 < (l1.length : Int) := of_decide_eq_true (by first | (with_reducible assumption) | assumption)
                        obtain ⟨ad208, e208, hx208_0⟩ := Kd.at_int HR1.out x5_1 p208 q208
                        cases e208
                        replace p208 := eq_true p208
                        replace q208 := eq_true q208
                        go_wp2
                        go_roundg k2
                        case measure => have := HK1.out; have := HK2.out; omega
                        case rel => exact ⟨(Go.bits .or .u32 (((Go.bits .xor .u32 x0_2 3988292384) * 2) % 4294967296) 1), (wrap64 (x6_2 - 1)), (by first | rfl | (simp; done) | (simp [*]; done)), (by first | rfl | (simp; done) | (simp [*]; done)), H', ⟨by have := HK1.out; have := HK2.out; omega⟩, by repeat (first | exact Drawn0.refl _ | apply Drawn0.step)⟩
                      · rw [if_neg c10] at H
                        have c10b0 : (((x0_2 / 2147483648) == 1) != ((Go.bits .and .u8 (ji9) 1) == 1)) = false := by simpa using c10
                        (try (have c10b1 : decide (((x0_2 / 2147483648) == 1) = ((Go.bits .and .u8 (ji9) 1) == 1)) = true := by simpa using c10))
                        (try (have c10b2 : (((x0_2 / 2147483648) == 1) == ((Go.bits .and .u8 (ji9) 1) == 1)) = true := by simpa using c10))
                        (try (have c10b3 : ((x0_2 / 2147483648) == 1) = true := by revert c10; simp [*]))
                        (try (have c10b4 : ((x0_2 / 2147483648) == 1) = false := by revert c10; simp [*]))
                        (try (have c10b5 : ((Go.bits .and .u8 (ji9) 1) == 1) = true := by revert c10; simp [*]))
                        (try (have c10b6 : ((Go.bits .and .u8 (ji9) 1) == 1) = false := by revert c10; simp [*]))
                        clear c10
                        have H' := Aside0.mk H
                        clear H
                        have p208 : 0 ≤ (x5_1 : Int) := of_decide_eq_true (by first | (with_reducible assumption) | assumption)
                        have q208 : x5_1 < (l1.length : Int) := of_decide_eq_true (by first | (with_reducible assumption) | assumption)
                        obtain ⟨ad208, e208, hx208_0⟩ := Kd.at_int HR1.out x5_1 p208 q208
                        cases e208
                        replace p208 := eq_true p208
                        replace q208 := eq_true q208
                        go_wp2
                        go_roundg k2
                        case measure => have := HK1.out; have := HK2.out; omega
                        case rel => exact ⟨(((Go.bits .xor .u32 x0_2 3988292384) * 2) % 4294967296), (wrap64 (x6_2 - 1)), (by first | rfl | (simp; done) | (simp [*]; done)), (by first | rfl | (simp; done) | (simp [*]; done)), H', ⟨by have := HK1.out; have := HK2.out; omega⟩, by repeat (first | exact Drawn0.refl _ | apply Drawn0.step)⟩
                    · rw [if_neg c8] at H
                      exact absurd H (by simp)
                  · rw [if_neg c7] at H
                    exact absurd H (by simp)
                · rw [if_neg c6] at H
                  exact absurd H (by simp)
              · rw [if_neg c5] at H
                have c5b0 : ((x0_2 / 2147483648) == 1) = false := beq_eq_false_iff_ne.mpr c5
                have c5b1 : ((x0_2 / 2147483648) != 1) = true := bne_iff_ne.mpr c5
                by_cases c11 : 0 ≤ x5_1
                · rw [if_pos c11] at H
                  have c11b0 : decide (0 ≤ x5_1) = true := decide_eq_true c11
                  clear c11
                  by_cases c12 : x5_1 < (l1.length : Int)
                  · rw [if_pos c12] at H
                    have c12b0 : decide (x5_1 < (l1.length : Int)) = true := decide_eq_true c12
                    clear c12
                    by_cases c13 : 0 ≤ x6_2
                    · rw [if_pos c13] at H
                      have c13b0 := eq_true c13
                      have c13b1 : decide (0 ≤ x6_2) = true := decide_eq_true c13
                      clear c13
                      obtain ⟨ji14, hji14⟩ : ∃ j_ : Int, (shr .u8 (rd l1 x5_1) x6_2) = j_ := ⟨_, rfl⟩
                      replace H : (if (((x0_2 / 2147483648) == 1) != ((Go.bits .and .u8 (ji14) 1) == 1)) = true then (waybillref02_Back.l1 k2 (Go.bits .or .u32 ((x0_2 * 2) % 4294967296) 1) l1 x5_1 (wrap64 (x6_2 - 1))) else (waybillref02_Back.l1 k2 ((x0_2 * 2) % 4294967296) l1 x5_1 (wrap64 (x6_2 - 1)))) = some r := by first | (rw [hji14] at H; exact H) | (simp only [hji14] at H ⊢; exact H)
                      have hji14_ : ((rd l1 x5_1) / 2 ^ min x6_2.toNat 8) = ji14 := hji14
                      have hji14z : x6_2 ≤ 8 → ((rd l1 x5_1) / 2 ^ x6_2.toNat) = ji14 := shr_small hji14
                      by_cases c15 : (((x0_2 / 2147483648) == 1) != ((Go.bits .and .u8 (ji14) 1) == 1)) = true
                      · rw [if_pos c15] at H
                        have c15b0 : (((x0_2 / 2147483648) == 1) != ((Go.bits .and .u8 (ji14) 1) == 1)) = true := c15
                        (try (have c15b1 : decide (((x0_2 / 2147483648) == 1) = ((Go.bits .and .u8 (ji14) 1) == 1)) = false := by simpa using c15))
                        (try (have c15b2 : (((x0_2 / 2147483648) == 1) == ((Go.bits .and .u8 (ji14) 1) == 1)) = false := by simpa using c15))
                        (try (have c15b3 : ¬ (((x0_2 / 2147483648) == 1) = ((Go.bits .and .u8 (ji14) 1) == 1)) := by simpa using c15))
                        (try (have c15b4 : ((x0_2 / 2147483648) == 1) = true := by revert c15; simp [*]))
                        (try (have c15b5 : ((x0_2 / 2147483648) == 1) = false := by revert c15; simp [*]))
                        (try (have c15b6 : ((Go.bits .and .u8 (ji14) 1) == 1) = true := by revert c15; simp [*]))
                        (try (have c15b7 : ((Go.bits .and .u8 (ji14) 1) == 1) = false := by revert c15; simp [*]))
                        clear c15
                        have H' := Aside0.mk H
                        clear H
                        have p209 : 0 ≤ (x5_1 : Int) := of_decide_eq_true (by first | (with_reducible assumption) | assumption)
                        have q209 : x5_1 < (l1.length : Int) := of_decide_eq_true (by first | (with_reducible assumption) | assumption)
                        obtain ⟨ad209, e209, hx209_0⟩ := Kd.at_int HR1.out x5_1 p209 q209
                        cases e209
                        replace p209 := eq_true p209
                        replace q209 := eq_true q209
                        go_wp2
                        go_roundg k2
                        case measure => have := HK1.out; have := HK2.out; omega
                        case rel => exact ⟨(Go.bits .or .u32 ((x0_2 * 2) % 4294967296) 1), (wrap64 (x6_2 - 1)), (by first | rfl | (simp; done) | (simp [*]; done)), (by first | rfl | (simp; done) | (simp [*]; done)), H', ⟨by have := HK1.out; have := HK2.out; omega⟩, by repeat (first | exact Drawn0.refl _ | apply Drawn0.step)⟩
                      · rw [if_neg c15] at H
                        have c15b0 : (((x0_2 / 2147483648) == 1) != ((Go.bits .and .u8 (ji14) 1) == 1)) = false := by simpa using c15
                        (try (have c15b1 : decide (((x0_2 / 2147483648) == 1) = ((Go.bits .and .u8 (ji14) 1) == 1)) = true := by simpa using c15))
                        (try (have c15b2 : (((x0_2 / 2147483648) == 1) == ((Go.bits .and .u8 (ji14) 1) == 1)) = true := by simpa using c15))
                        (try (have c15b3 : ((x0_2 / 2147483648) == 1) = true := by revert c15; simp [*]))
                        (try (have c15b4 : ((x0_2 / 2147483648) == 1) = false := by revert c15; simp [*]))
                        (try (have c15b5 : ((Go.bits .and .u8 (ji14) 1) == 1) = true := by revert c15; simp [*]))
                        (try (have c15b6 : ((Go.bits .and .u8 (ji14) 1) == 1) = false := by revert c15; simp [*]))
                        clear c15
                        have H' := Aside0.mk H
                        clear H
                        have p209 : 0 ≤ (x5_1 : Int) := of_decide_eq_true (by first | (with_reducible assumption) | assumption)
                        have q209 : x5_1 < (l1.length : Int) := of_decide_eq_true (by first | (with_reducible assumption) | assumption)
                        obtain ⟨ad209, e209, hx209_0⟩ := Kd.at_int HR1.out x5_1 p209 q209
                        cases e209
                        replace p209 := eq_true p209
                        replace q209 := eq_true q209
                        go_wp2
                        go_roundg k2
                        case measure => have := HK1.out; have := HK2.out; omega
                        case rel => exact ⟨((x0_2 * 2) % 4294967296), (wrap64 (x6_2 - 1)), (by first | rfl | (simp; done) | (simp [*]; done)), (by first | rfl | (simp; done) | (simp [*]; done)), H', ⟨by have := HK1.out; have := HK2.out; omega⟩, by repeat (first | exact Drawn0.refl _ | apply Drawn0.step)⟩
                    · rw [if_neg c13] at H
                      exact absurd H (by simp)
                  · rw [if_neg c12] at H
                    exact absurd H (by simp)
                · rw [if_neg c11] at H
                  exact absurd H (by simp)
            · rw [if_neg c4] at H
              have c4b0 : decide (0 ≤ x6_2) = false := decide_eq_false c4
              clear c4
              have H' := Aside0.mk H
              clear H
              go_wp2
              go_roundg k2
              case measure => have := HK1.out; have := HK2.out; omega
              case rel => exact ⟨(x0_2), (wrap64 (x5_1 - 1)), (by first | rfl | (simp; done) | (simp [*]; done)), (by first | rfl | (simp; done) | (simp [*]; done)), H', ⟨by have := HK1.out; have := HK2.out; omega⟩, by repeat (first | exact Drawn0.refl _ | apply Drawn0.step)⟩
      · rw [if_neg c3] at H
        have c3b0 : decide (0 ≤ x5_1) = false := decide_eq_false c3
        clear c3
        obtain rfl := Option.some.inj H
        go_wp2
        go_ret
        exact ⟨by first | rfl | (simp; done) | (simp [*]; done), by repeat (first | exact Drawn0.refl _ | apply Drawn0.step)⟩

end Go.Proofs.Ytcaibhdnfkkmlaa.G
