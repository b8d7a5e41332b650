-- Made by wip/tools/xprint.py (over the kit's print program) for this claim.
import Derived.Test.YtaidadofkbagkaaGx0
namespace Go.Proofs.Ytaidadofkbagkaa.G
open WB Go.RowKit Go.Proofs.YtaidadofkbagkaaW.PrintWords Go.Proofs.YtaidadofkbagkaaW.PrintLast Go.Proofs.YtaidadofkbagkaaW.PrintMore
attribute [local go_sem] max2_int min2_int max_two min_two max_three min_three max_four min_four   -- for this text's walks alone
set_option linter.unusedVariables false
set_option linter.unusedSimpArgs false

/-! ### ring_Check: function 33 -/
set_option maxHeartbeats 2000000 in
set_option maxRecDepth 100000 in
theorem ring_odd (b : S36) (w : World) : Calls Try.prog 35 #[.agg #[.int .i64 b.f0, .int .i64 b.f1]] w fun e w' => e = .returned (.bool (oddB b)) ∧ Below w.heap.size w w' := by
  obtain ⟨x, y⟩ := b
  go_enter Try.func35, Try.ntmps35
  go_wp2
  all_goals
    go_ret
    refine ⟨?_, by repeat (first | exact Below.refl _ _ | apply below_alloc)⟩
    simp [oddB]
    try omega
set_option maxHeartbeats 2000000 in
set_option maxRecDepth 100000 in
theorem ring_index (B : Option Addr) (c : Nat) (l : List S36) (w : World) (hr : Kd.C k36 w B l.length l) :
    Calls Try.prog 37 #[.slice B l.length c, .func (.func 35) #[] #[]] w
      fun e w' => Aside0 (∃ i : Int, e = .returned (.int .i64 i) ∧ decide (0 ≤ i) = l.any oddB) ∧ Below w.heap.size w w' := by
  have HR := Aside0.mk hr
  have hlen : l.length ≤ 9223372036854775807 := hr.2.1
  clear hr
  go_enter Try.func37, Try.ntmps37
  go_wp2
  go_loopw [8] (fun v8 wr => ∃ k : Nat, v8 = .int .i64 k ∧ k ≤ l.length ∧ Aside0 ((l.take k).any oddB = false) ∧ Aside0 (Below w.heap.size w wr)) (fun v8 _ => l.length - (intOf v8).toNat)
  case atStart => exact ⟨0, rfl, by omega, ⟨by simp⟩, ⟨Below.refl _ _⟩⟩
  case round =>
    obtain ⟨k, rfl, hk, HT, HB⟩ := hrel
    by_cases hlt : k < l.length
    · obtain ⟨ad, e1, q0, q1⟩ := at_T36 (Kd.C_below HR.out HB.out) (k : Int) (by omega) (by omega)
      simp only [Int.toNat_natCast] at q0 q1
      obtain ⟨d, hd⟩ : ∃ d, d = rd_T36 l (k : Int) := ⟨_, rfl⟩
      rw [← hd] at q0 q1
      have HD : Aside0 (l.take (k + 1) = l.take k ++ [d]) := ⟨by
        rw [List.take_succ_eq_append_getElem hlt, hd]; simp [rd_T36, List.getElem?_eq_getElem hlt]⟩
      have HDm : Aside0 (d ∈ l) := ⟨by rw [hd]; simp [rd_T36, List.getElem?_eq_getElem hlt]⟩
      have b1 : decide (k < l.length) = true := decide_eq_true hlt
      clear hd
      subst e1
      by_cases ho : oddB d = true
      · go_wp2_with (go_at_call 35; (with_reducible refine (ring_odd d _).mono ?_); rintro e w1 ⟨rfl, hb⟩; have HB1 := Aside0.mk hb; clear hb)
        have HA : Aside0 (l.any oddB = true) := ⟨List.any_eq_true.2 ⟨d, HDm.out, ho⟩⟩
        go_ret
        exact ⟨⟨(k : Int), rfl, by rw [HA.out]; exact decide_eq_true (by omega)⟩, below_then HB.out HB.out.size HB1.out⟩
      · have ho' : oddB d = false := by simpa using ho
        have HT' : Aside0 ((l.take (k + 1)).any oddB = false) := ⟨by rw [HD.out, List.any_append, HT.out]; simp [ho']⟩
        clear ho
        go_wp2_with (go_at_call 35; (with_reducible refine (ring_odd d _).mono ?_); rintro e w1 ⟨rfl, hb⟩; have HB1 := Aside0.mk hb; clear hb)
        go_roundw
        case rel => exact ⟨k + 1, by go_num, by omega, HT', ⟨below_then HB.out HB.out.size HB1.out⟩⟩
        case measure => simp [intOf]; omega
    · have b1 : decide (k < l.length) = false := decide_eq_false hlt
      have HA : Aside0 (l.any oddB = false) := ⟨by have := HT.out; rwa [List.take_of_length_le (by omega)] at this⟩
      go_wp2
      go_ret
      exact ⟨⟨(-1 : Int), rfl, by rw [HA.out]; rfl⟩, HB.out⟩
set_option maxHeartbeats 2000000 in
set_option maxRecDepth 100000 in
theorem ring_contains (B : Option Addr) (c : Nat) (l : List S36) (w : World) (hr : Kd.C k36 w B l.length l) :
    Calls Try.prog 36 #[.slice B l.length c, .func (.func 35) #[] #[]] w
      fun e w' => e = .returned (.bool (l.any oddB)) ∧ Below w.heap.size w w' := by
  have H1 := Aside0.mk (ring_index B c l w hr)
  clear hr
  go_enter Try.func36, Try.ntmps36
  go_wp2_with (go_at_call 37; (with_reducible refine (H1.out).mono ?_); rintro e w1 ⟨⟨i, rfl, hi⟩, hb⟩; have HI := Aside0.mk hi; have HB := Aside0.mk hb; clear hi hb)
  go_ret
  exact ⟨by simp [HI.out], HB.out⟩
def ring_Check.f (l0 : List (S36)) : Option (Int) := some (checkB l0)
set_option maxHeartbeats 2000000 in
set_option maxRecDepth 100000 in
theorem ring_Check.calls (A0 : Option Addr) (c0 : Nat) (l0 : List (S36)) (r : Int) (w : World) (hr0 : Kd.C k36 w A0 l0.length l0) (hc0 : l0.length ≤ c0) (h : ring_Check.f l0 = some r) :
    Calls Try.prog 33 #[.slice A0 l0.length c0] w fun e w' => e = .returned (.int .i64 r) ∧ Below w.heap.size w w' := by
  unfold ring_Check.f at h
  obtain rfl := Option.some.inj h
  clear h
  have HR := Aside0.mk hr0
  have HC := Aside0.mk hc0
  have hlen : l0.length ≤ 9223372036854775807 := hr0.2.1
  clear hr0 hc0
  by_cases h0 : 32 < l0.length
  · have HE : Aside0 (checkB l0 = 3) := ⟨by unfold checkB; rw [if_pos h0]⟩
    rw [HE.out]
    have b0 : decide (32 < l0.length) = true := decide_eq_true h0
    have b0' : decide ((32 : Int) < l0.length) = true := decide_eq_true (by omega)
    clear h0
    go_enter Try.func33, Try.ntmps33
    go_wp2
    go_ret
    exact ⟨rfl, by repeat (first | exact Below.refl _ _ | apply below_alloc)⟩
  · have b0 : decide (32 < l0.length) = false := decide_eq_false h0
    have b0' : decide ((32 : Int) < l0.length) = false := decide_eq_false (by omega)
    have hle : l0.length ≤ 32 := by omega
    cases ha : l0.any oddB with
    | true =>
      have HE : Aside0 (checkB l0 = 4) := ⟨by unfold checkB; rw [if_neg h0, if_pos ha]⟩
      rw [HE.out]
      clear h0
      go_enter Try.func33, Try.ntmps33
      go_wp2_with (go_at_call 36; (with_reducible refine (ring_contains A0 c0 l0 _ ?hr).mono ?_); (case hr => first | exact HR.out | exact Kd.C_alloc HR.out _); rintro e w1 ⟨rfl, hb⟩; have HB1 := Aside0.mk hb; clear hb)
      go_ret
      exact ⟨rfl, HB1.out⟩
    | false =>
      have HE : Aside0 (checkB l0 = if risesB l0 = false then 6 else 0) := ⟨by unfold checkB; rw [if_neg h0, if_neg (by rw [ha]; simp)]⟩
      clear h0
      go_enter Try.func33, Try.ntmps33
      go_wp2_with (go_at_call 36; (with_reducible refine (ring_contains A0 c0 l0 _ ?hr).mono ?_); (case hr => first | exact HR.out | exact Kd.C_alloc HR.out _); rintro e w1 ⟨rfl, hb⟩; have HB1 := Aside0.mk hb; clear hb)
      clear ha
      go_loopw [15] (fun v15 wr => ∃ k : Nat, v15 = .int .i64 k ∧ k ≤ l0.length ∧ Aside0 (risesB (l0.take k) = true) ∧ Aside0 (Below w.heap.size w wr)) (fun v15 _ => l0.length - (intOf v15).toNat)
      case atStart => exact ⟨0, rfl, by omega, ⟨by simp [risesB]⟩, HB1⟩
      case round =>
        obtain ⟨k, rfl, hk, HT, HB⟩ := hrel
        by_cases hlt : k < l0.length
        · have b1 : decide (k < l0.length) = true := decide_eq_true hlt
          rcases Nat.eq_zero_or_pos k with h0 | h0
          · subst h0
            have HT' : Aside0 (risesB (l0.take (0 + 1)) = true) := ⟨by
              rw [List.take_succ_eq_append_getElem hlt]; simp [risesB]⟩
            go_wp2
            go_quiet (fail)
            go_wp2
            go_roundw
            case rel => exact ⟨1, rfl, by omega, HT', ⟨pw_below_drewN HB.out _⟩⟩
            case measure => simp [intOf]; omega
          · obtain ⟨ad, e1, q0, q1⟩ := at_T36 (Kd.C_below HR.out HB.out) (k : Int) (by omega) (by omega)
            obtain ⟨ad', e2, p0, p1⟩ := at_T36 (Kd.C_below HR.out HB.out) ((k : Int) - 1) (by omega) (by omega)
            have HS := Aside0.mk (risesB_step l0 k h0 hlt)
            have f1 : (rd_T36 l0 (k : Int)).f0 = (l0.getD k z36).f0 := by simp [rd_T36]
            have f2 : (rd_T36 l0 ((k : Int) - 1)).f0 = (l0.getD (k - 1) z36).f0 := by
              have : ((k : Int) - 1).toNat = k - 1 := by omega
              simp [rd_T36, this]
            rw [e1] at e2
            obtain rfl := Option.some.inj e2
            rw [f1] at q0
            rw [f2] at p0
            have n1 : ((k : Int) - 1).toNat = k - 1 := by omega
            simp only [Int.toNat_natCast] at q0
            rw [n1] at p0
            clear q1 p1 f1 f2 e2
            obtain ⟨x, hx⟩ : ∃ x, x = (l0.getD k z36).f0 := ⟨_, rfl⟩
            obtain ⟨y, hy⟩ : ∃ y, y = (l0.getD (k - 1) z36).f0 := ⟨_, rfl⟩
            rw [← hx] at q0
            rw [← hy] at p0
            have HS' : Aside0 (risesB (l0.take (k + 1)) = decide (y < x)) := ⟨by rw [HS.out, HT.out, hx, hy]; rfl⟩
            clear HS hx hy
            have c0 : decide ((0 : Int) < k) = true := decide_eq_true (by omega)
            have c1 : (0 : Int) ≤ (k : Int) - 1 := by omega
            have cw : IntKind.i64.wrap ((k : Int) - 1) = (k : Int) - 1 := by rw [IntKind.wrap_i64]; omega
            have c2' : (k : Int) - 1 < (l0.length : Int) := by omega
            subst e1
            by_cases hxy : x ≤ y
            · have d1 : decide (x ≤ y) = true := decide_eq_true hxy
              have HA : Aside0 (risesB l0 = false) := ⟨risesB_false l0 (k + 1) (by rw [HS'.out]; exact decide_eq_false (by omega))⟩
              clear hxy
              go_wp2
              go_quiet (fail)
              go_wp2
              go_ret
              exact ⟨by rw [HE.out, HA.out]; rfl, pw_below_drewN HB.out _⟩
            · have d1 : decide (x ≤ y) = false := decide_eq_false hxy
              have HT' : Aside0 (risesB (l0.take (k + 1)) = true) := ⟨by rw [HS'.out]; exact decide_eq_true (by omega)⟩
              clear hxy
              go_wp2
              go_quiet (fail)
              go_wp2
              go_roundw
              case rel => exact ⟨k + 1, by go_num, by omega, HT', ⟨pw_below_drewN HB.out _⟩⟩
              case measure => simp [intOf]; omega
        · have b1 : decide (k < l0.length) = false := decide_eq_false hlt
          have HA : Aside0 (risesB l0 = true) := ⟨by have := HT.out; rwa [List.take_of_length_le (by omega)] at this⟩
          go_wp2
          go_ret
          exact ⟨by rw [HE.out, HA.out]; rfl, HB.out⟩

end Go.Proofs.Ytaidadofkbagkaa.G
