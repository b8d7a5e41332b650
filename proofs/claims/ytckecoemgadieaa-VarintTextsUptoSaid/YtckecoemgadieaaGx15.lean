-- Made by wip/tools/xprint.py (over the kit's print program) for this claim.
import Derived.Test.YtckecoemgadieaaGx0
namespace Go.Proofs.Ytckecoemgadieaa.G
open WB Go.RowKit Go.Proofs.YtckecoemgadieaaW.PrintWords Go.Proofs.YtckecoemgadieaaW.PrintLast Go.Proofs.YtckecoemgadieaaW.PrintMore
attribute [local go_sem] max2_int min2_int max_two min_two max_three min_three max_four min_four   -- for this text's walks alone
set_option linter.unusedVariables false
set_option linter.unusedSimpArgs false

/-! ### waybillref01_Get: function 25 -/
def waybillref01_Get.f (l0 : List Int) (a1 : Int) : Option (Int × Int × Int) := if octetsOk l0 = true then some (getAt l0 a1) else none
set_option maxHeartbeats 2000000 in
set_option maxRecDepth 100000 in
theorem waybillref01_Get.calls (A0 : Option Addr) (c0 : Nat) (l0 : List Int) (a1 : Int) (r1 : Int) (r2 : Int) (r3 : Int) (w : World) (hr0 : Kd.C (Kd.int .u8) w A0 l0.length l0) (hc0 : l0.length ≤ c0) (h : waybillref01_Get.f l0 a1 = some (r1, r2, r3)) :
    Calls Try.prog 25 #[.slice A0 l0.length c0, .int .i64 a1] w fun e w' => e = .returned (.tuple #[.int .u64 r1, .int .i64 r2, .int .i64 r3]) ∧ Drawn0 w w' := by
  unfold waybillref01_Get.f at h
  split at h
  case isFalse => cases h
  case isTrue wf =>
  have hget := Option.some.inj h
  clear h
  by_cases hneg : a1 < 0
  · have e : getAt l0 a1 = (0, 0, 4) := by unfold getAt; rw [if_pos (Or.inl hneg)]
    rw [e] at hget
    obtain ⟨rfl, rfl, rfl⟩ : 0 = r1 ∧ 0 = r2 ∧ 4 = r3 := by simpa using hget
    have b0 : decide (a1 < 0) = true := decide_eq_true hneg
    clear hr0 hc0 hget e hneg wf
    go_enter Try.func25, Try.ntmps25
    go_wp2
    go_ret3
    exact ⟨rfl, Drawn0.refl _⟩
  by_cases hbig : (l0.length : Int) < a1
  · have e : getAt l0 a1 = (0, 0, 4) := by unfold getAt; rw [if_pos (Or.inr hbig)]
    rw [e] at hget
    obtain ⟨rfl, rfl, rfl⟩ : 0 = r1 ∧ 0 = r2 ∧ 4 = r3 := by simpa using hget
    have b0 : decide (a1 < 0) = false := decide_eq_false hneg
    have b1 : decide ((l0.length : Int) < a1) = true := decide_eq_true hbig
    clear hr0 hc0 hget e hneg wf hbig
    go_enter Try.func25, Try.ntmps25
    go_wp2
    go_ret3
    exact ⟨rfl, Drawn0.refl _⟩
  obtain ⟨n, rfl⟩ := Int.eq_ofNat_of_zero_le (Int.not_lt.mp hneg)
  have hn : n ≤ l0.length := by omega
  have HG : Aside0 ((match getB (l0.drop n) 0 0 with | (q, m, 0) => (q, (n : Int) + m, 0) | (_, _, e) => (0, 0, e)) = (r1, r2, r3)) := ⟨by
    rw [← hget]; unfold getAt; rw [if_neg (by omega)]; rfl⟩
  have hlen0 : l0.length ≤ 9223372036854775807 := hr0.2.1
  have HR := Aside0.mk hr0
  have HW := Aside0.mk wf
  have b0 : decide ((n : Int) < 0) = false := decide_eq_false hneg
  have b1 : decide (l0.length < n) = false := decide_eq_false (by omega)
  clear hr0 hc0 hget hneg wf hbig
  go_enter Try.func25, Try.ntmps25
  go_wp2
  go_loop [1, 7, 8, 9] (fun v1 v7 v8 v9 => ∃ (i : Nat) (acc : Int), v1 = .int .i64 ((n : Int) + i) ∧ v7 = .int .u64 acc ∧ v8 = .int .u64 (128 ^ i) ∧ v9 = .int .i64 i ∧ i ≤ 9 ∧ Aside0 (n + i ≤ l0.length) ∧ 0 ≤ acc ∧ Aside0 (acc < 128 ^ i) ∧ Aside0 (getB (l0.drop n) 0 0 = getB (l0.drop (n + i)) i acc)) (fun _ _ _ v9 => 10 - (intOf v9).toNat)
  case atStart => exact ⟨0, 0, by simp, rfl, rfl, rfl, by omega, ⟨by omega⟩, by omega, ⟨by simp⟩, ⟨by simp⟩⟩
  case round =>
    obtain ⟨i, acc, rfl, rfl, rfl, rfl, hi, HI, hacc, HA, HB⟩ := hrel
    by_cases hlt : n + i < l0.length
    · obtain ⟨ad, e1, hcell⟩ := Kd.at_int HR.out ((n : Int) + i) (by omega) (by omega)
      rw [show ((n : Int) + i).toNat = n + i by omega] at hcell
      have hw := octetsOk_get HW.out (n + i)
      have hrd : rd l0 ((n : Int) + i) = l0.getD (n + i) 0 := by simp [rd, show ((n : Int) + i).toNat = n + i by omega]
      rw [hrd] at hcell
      obtain ⟨c, hc⟩ : ∃ c, c = l0.getD (n + i) 0 := ⟨_, rfl⟩
      rw [← hc] at hcell hw
      have HD : Aside0 (l0.drop (n + i) = c :: l0.drop (n + i + 1)) := ⟨by
        rw [List.drop_eq_getElem_cons hlt, hc, List.getD_eq_getElem?_getD, List.getElem?_eq_getElem hlt]; rfl⟩
      have h0 : 0 ≤ c := hw.1
      have h1 : c < 256 := hw.2
      clear hw hrd hc
      have b2 : ((n : Int) + i == l0.length) = false := by rw [beq_eq_false_iff_ne]; omega
      have b3 : ((i : Int) == 10) = false := by rw [beq_eq_false_iff_ne]; omega
      have hnat : ((n : Int) + i).toNat = n + i := by omega
      subst e1
      have HJ := fun h9 => Aside0.mk (add_join_ i acc (c % 128) hacc HA.out (by omega) (by omega) hi h9)
      have HN : Aside0 (getB (l0.drop (n + i)) i acc = if c < 128 ∧ (0 < c ∨ i = 0) ∧ (i < 9 ∨ c = 1) then (acc + c * 128 ^ i, i + 1, 0) else if c < 128 ∨ i = 9 then (0, 0, 21) else getB (l0.drop (n + i + 1)) (i + 1) (acc + (c % 128) * 128 ^ i)) := ⟨by rw [HD.out]; rfl⟩
      by_cases hS : c < 128 ∧ (0 < c ∨ i = 0) ∧ (i < 9 ∨ c = 1)
      · have hJ := (HJ (by omega)).out
        have HE : Aside0 ((acc + c % 128 * 128 ^ i, (n : Int) + i + 1, 0) = (r1, r2, r3)) := ⟨by
          have := HG.out
          rw [HB.out, HN.out, if_pos hS] at this
          simp only at this
          rw [← this, show c % 128 = c by omega]
          rw [show (n : Int) + ((i + 1 : Nat) : Int) = n + i + 1 by omega]⟩
        have HJ' := Aside0.mk hJ
        clear hJ HJ HN HB HG HD
        obtain ⟨hS1, hS2, hS3⟩ := hS
        go_wp2
        all_goals first | (exfalso; omega) | (exfalso; simp only [beq_eq_false_iff_ne, ne_eq, beq_iff_eq, Bool.not_eq_false', Bool.not_eq_true', decide_eq_true_eq, decide_eq_false_iff_not] at *; omega) | skip
        all_goals
          have hE := HE.out
          simp only [Prod.mk.injEq] at hE
          obtain ⟨e1, e2, e3⟩ := hE
          subst e1 e2 e3
          go_ret3
          exact ⟨by first | (simp [HJ'.out.1]; done) | (simp [HJ'.out.1]; omega) | (have hz := HJ'.out.1; rw [show c % 128 = 0 by omega] at hz ⊢; have w0 : IntKind.u64.wrap 0 = 0 := (by rfl); simpa [w0] using hz), Drawn0.refl _⟩
      · by_cases hE : c < 128 ∨ i = 9
        · have HE : Aside0 ((0, 0, 21) = (r1, r2, r3)) := ⟨by
            have := HG.out
            rw [HB.out, HN.out, if_neg hS, if_pos hE] at this
            simpa using this⟩
          clear HJ HN HB HG HD
          go_wp2
          all_goals first | (exfalso; omega) | (exfalso; simp only [beq_eq_false_iff_ne, ne_eq, beq_iff_eq, Bool.not_eq_false', Bool.not_eq_true', decide_eq_true_eq, decide_eq_false_iff_not] at *; omega) | skip
          all_goals
            have hE := HE.out
            simp only [Prod.mk.injEq] at hE
            obtain ⟨e1, e2, e3⟩ := hE
            subst e1 e2 e3
            go_ret3
            exact ⟨rfl, Drawn0.refl _⟩
        · have hJ := (HJ (by omega)).out
          have HE : Aside0 (getB (l0.drop n) 0 0 = getB (l0.drop (n + (i + 1))) (i + 1) (acc + c % 128 * 128 ^ i)) := ⟨by rw [HB.out, HN.out, if_neg hS, if_neg hE]; rfl⟩
          have HJ' := Aside0.mk hJ
          clear hJ HJ HN HB HD
          have hi9 : i < 9 := by omega
          have hc128 : 128 ≤ c := by omega
          clear hS hE
          go_wp2
          go_round
          case rel => exact ⟨i + 1, acc + c % 128 * 128 ^ i, by go_num, by rw [HJ'.out.1], by rw [HJ'.out.2.2.2 hi9], by go_num, by omega, ⟨by omega⟩, HJ'.out.2.2.1, ⟨HJ'.out.2.1 hi9⟩, HE⟩
          case measure => simp [intOf]; omega
    · have b2 : ((n : Int) + i == l0.length) = true := by rw [beq_iff_eq]; have := HI.out; omega
      have b3 : ((i : Int) == 10) = false := by rw [beq_eq_false_iff_ne]; omega
      have HE : Aside0 ((0, 0, 8) = (r1, r2, r3)) := ⟨by
        have := HG.out
        rw [HB.out, List.drop_of_length_le (by omega)] at this
        simpa [getB] using this⟩
      clear HB HG
      go_wp2
      have hE := HE.out
      simp only [Prod.mk.injEq] at hE
      obtain ⟨e1, e2, e3⟩ := hE
      subst e1 e2 e3
      go_ret3
      exact ⟨rfl, Drawn0.refl _⟩

end Go.Proofs.Ytckecoemgadieaa.G
