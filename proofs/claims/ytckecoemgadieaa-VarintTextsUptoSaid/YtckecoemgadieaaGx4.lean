-- Made by wip/tools/xprint.py (over the kit's print program) for this claim.
import Derived.Test.YtckecoemgadieaaGx0
namespace Go.Proofs.Ytckecoemgadieaa.G
open WB Go.RowKit Go.Proofs.YtckecoemgadieaaW.PrintWords Go.Proofs.YtckecoemgadieaaW.PrintLast Go.Proofs.YtckecoemgadieaaW.PrintMore
attribute [local go_sem] max2_int min2_int max_two min_two max_three min_three max_four min_four   -- for this text's walks alone
set_option linter.unusedVariables false
set_option linter.unusedSimpArgs false

/-! ### varint_Get: function 11 -/
def varint_Get.f (l0 : List Int) (a1 : Int) : Option (Int × Int × Int) := if octetsOk l0 = true then some (getAt l0 a1) else none
set_option maxHeartbeats 2000000 in
set_option maxRecDepth 100000 in
theorem varint_Get.calls (A0 : Option Addr) (c0 : Nat) (l0 : List Int) (a1 : Int) (r1 : Int) (r2 : Int) (r3 : Int) (w : World) (hr0 : Kd.C (Kd.int .u8) w A0 l0.length l0) (hc0 : l0.length ≤ c0) (h : varint_Get.f l0 a1 = some (r1, r2, r3)) :
    Calls Try.prog 11 #[.slice A0 l0.length c0, .int .i64 a1] w fun e w' => e = .returned (.tuple #[.int .u64 r1, .int .i64 r2, .int .i64 r3]) ∧ Drawn0 w w' := by
  unfold varint_Get.f at h
  split at h
  case isFalse => cases h
  case isTrue wf =>
  have hget := Option.some.inj h
  clear h
  by_cases hneg : a1 < 0
  · have e : getAt l0 a1 = (0, 0, 4) := by unfold getAt; rw [if_pos (Or.inl hneg)]
    rw [e] at hget
    obtain ⟨rfl, rfl, rfl⟩ : 0 = r1 ∧ 0 = r2 ∧ 4 = r3 := by simpa using hget
    have b0 : decide (a1 < 0) = true := decide_eq_true hneg
    clear hr0 hc0 hget e hneg wf
    go_enter Try.func11, Try.ntmps11
    go_wp2
    go_ret3
    exact ⟨rfl, Drawn0.refl _⟩
  by_cases hbig : (l0.length : Int) < a1
  · have e : getAt l0 a1 = (0, 0, 4) := by unfold getAt; rw [if_pos (Or.inr hbig)]
    rw [e] at hget
    obtain ⟨rfl, rfl, rfl⟩ : 0 = r1 ∧ 0 = r2 ∧ 4 = r3 := by simpa using hget
    have b0 : decide (a1 < 0) = false := decide_eq_false hneg
    have b1 : decide ((l0.length : Int) < a1) = true := decide_eq_true hbig
    clear hr0 hc0 hget e hneg wf hbig
    go_enter Try.func11, Try.ntmps11
    go_wp2
    go_ret3
    exact ⟨rfl, Drawn0.refl _⟩
  obtain ⟨n, rfl⟩ := Int.eq_ofNat_of_zero_le (Int.not_lt.mp hneg)
  have hn : n ≤ l0.length := by omega
  obtain ⟨i08, hi08, _, hsz8, _⟩ := info_parts info5
  obtain ⟨A8, hcut8, hA8, hC8⟩ := print_drop_of (P := Try.prog) (Value.int .u8) 0 22 5 .i64 Try.underlying22 hi08 hsz8 A0 c0 l0 (n : Int) (by omega) (by omega) hc0
  simp only [Int.toNat_natCast] at hcut8 hA8 hC8
  have HR := Aside0.mk (Kd.C_of_reads (h1 := fun _ => rfl) (hA8 _ (Kd.reads_of_C hr0)))
  have hget' : getB (l0.drop n) 0 0 = getB (l0.drop n) 0 0 := rfl
  obtain ⟨xs, hxs⟩ : ∃ xs, xs = l0.drop n := ⟨_, rfl⟩
  rw [← hxs] at hcut8 HR
  have HW : Aside0 (octetsOk xs = true) := ⟨by
    rw [hxs]; unfold octetsOk at wf ⊢; rw [List.all_eq_true] at wf ⊢; exact fun x hx => wf x (List.mem_of_mem_drop hx)⟩
  have HG : Aside0 ((match getB xs 0 0 with | (q, m, 0) => (q, (n : Int) + m, 0) | (_, _, e) => (0, 0, e)) = (r1, r2, r3)) := ⟨by
    rw [← hget]; unfold getAt; rw [if_neg (by omega), hxs]; rfl⟩
  have hlen : xs.length ≤ 9223372036854775807 := HR.out.2.1
  have HL : Aside0 ((n : Int) + xs.length = l0.length) := ⟨by rw [hxs, List.length_drop]; omega⟩
  have hlen0 : l0.length ≤ 9223372036854775807 := hr0.2.1
  have b0 : decide ((n : Int) < 0) = false := decide_eq_false hneg
  have b1 : decide (l0.length < n) = false := decide_eq_false (by omega)
  clear hr0 hc0 hget hget' hneg wf hbig hA8 hC8 hi08 hsz8 hxs hn
  go_enter Try.func11, Try.ntmps11
  go_wp2
  go_loop [7, 22] (fun v7 v22 => ∃ (i : Nat) (acc : Int), v7 = .int .u64 acc ∧ v22 = .int .i64 i ∧ i ≤ 9 ∧ Aside0 (i ≤ xs.length) ∧ 0 ≤ acc ∧ Aside0 (acc < 128 ^ i) ∧ Aside0 (getB xs 0 0 = getB (xs.drop i) i acc)) (fun _ i => xs.length + 10 - (intOf i).toNat)
  case atStart => exact ⟨0, 0, rfl, rfl, by omega, ⟨by omega⟩, by omega, ⟨by simp⟩, ⟨by simp⟩⟩
  case round =>
    obtain ⟨i, acc, rfl, rfl, hi, HI, hacc, HA, HB⟩ := hrel
    by_cases hlt : i < xs.length
    · obtain ⟨ad, e1, hcell⟩ := Kd.at_int HR.out (i : Int) (by omega) (by omega)
      simp only [Int.toNat_natCast] at hcell
      cases e1
      have hw := octetsOk_get HW.out i
      have hrd : rd xs (i : Int) = xs.getD i 0 := by simp [rd]
      rw [hrd] at hcell
      obtain ⟨c, hc⟩ : ∃ c, c = xs.getD i 0 := ⟨_, rfl⟩
      rw [← hc] at hcell hw
      have HD : Aside0 (xs.drop i = c :: xs.drop (i + 1)) := ⟨by
        rw [List.drop_eq_getElem_cons hlt, hc, List.getD_eq_getElem?_getD, List.getElem?_eq_getElem hlt]; rfl⟩
      have h0 : 0 ≤ c := hw.1
      have h1 : c < 256 := hw.2
      have hsum : (n : Int) + i + 1 ≤ (l0.length : Int) := by have := HL.out; omega
      have hand := and127_ c h0 h1
      clear hw hrd hc
      have b2 : decide ((i : Int) < xs.length) = true := decide_eq_true (by omega)
      have HJ := fun h9 => Aside0.mk (or_join_ i acc (c % 128) hacc HA.out (by omega) (by omega) hi h9)
      have HN : Aside0 (getB (xs.drop i) i acc = if c < 128 ∧ (0 < c ∨ i = 0) ∧ (i < 9 ∨ c = 1) then (acc + c * 128 ^ i, i + 1, 0) else if c < 128 ∨ i = 9 then (0, 0, 21) else getB (xs.drop (i + 1)) (i + 1) (acc + (c % 128) * 128 ^ i)) := ⟨by rw [HD.out]; rfl⟩
      by_cases hS : c < 128 ∧ (0 < c ∨ i = 0) ∧ (i < 9 ∨ c = 1)
      · have hJ := (HJ (by omega)).out.1
        have HE : Aside0 ((acc + c % 128 * 128 ^ i, (n : Int) + i + 1, 0) = (r1, r2, r3)) := ⟨by
          have := HG.out
          rw [HB.out, HN.out, if_pos hS] at this
          simp only at this
          rw [← this, show c % 128 = c by omega]
          rw [show (n : Int) + ((i + 1 : Nat) : Int) = n + i + 1 by omega]⟩
        have HJ' := Aside0.mk hJ
        clear hJ HJ HN HB HG HD
        obtain ⟨hS1, hS2, hS3⟩ := hS
        go_wp2
        all_goals first | (exfalso; omega) | (exfalso; simp only [beq_eq_false_iff_ne, ne_eq, beq_iff_eq] at *; omega) | skip
        all_goals
          have hE := HE.out
          simp only [Prod.mk.injEq] at hE
          obtain ⟨e1, e2, e3⟩ := hE
          subst e1 e2 e3
          go_ret3
          exact ⟨by simp [HJ'.out], Drawn0.refl _⟩
      · by_cases hE : c < 128 ∨ i = 9
        · have HE : Aside0 ((0, 0, 21) = (r1, r2, r3)) := ⟨by
            have := HG.out
            rw [HB.out, HN.out, if_neg hS, if_pos hE] at this
            simpa using this⟩
          clear HJ HN HB HG HD
          go_wp2
          all_goals first | (exfalso; omega) | (exfalso; simp only [beq_eq_false_iff_ne, ne_eq, beq_iff_eq] at *; omega) | skip
          all_goals
            have hE := HE.out
            simp only [Prod.mk.injEq] at hE
            obtain ⟨e1, e2, e3⟩ := hE
            subst e1 e2 e3
            go_ret3
            exact ⟨rfl, Drawn0.refl _⟩
        · have hJ := (HJ (by omega)).out
          have HE : Aside0 (getB xs 0 0 = getB (xs.drop (i + 1)) (i + 1) (acc + c % 128 * 128 ^ i)) := ⟨by rw [HB.out, HN.out, if_neg hS, if_neg hE]⟩
          have HJ' := Aside0.mk hJ
          clear hJ HJ HN HB HD
          have hi9 : i < 9 := by omega
          have hc128 : 128 ≤ c := by omega
          clear hS hE
          go_wp2
          go_round
          case rel => exact ⟨i + 1, acc + c % 128 * 128 ^ i, by rw [HJ'.out.1], by go_num, by omega, ⟨by omega⟩, HJ'.out.2.2, ⟨HJ'.out.2.1 hi9⟩, HE⟩
          case measure => simp [intOf]; omega
    · have b2 : decide ((i : Int) < xs.length) = false := decide_eq_false (by omega)
      have HE : Aside0 ((0, 0, 8) = (r1, r2, r3)) := ⟨by
        have := HG.out
        rw [HB.out, List.drop_of_length_le (by omega)] at this
        simpa [getB] using this⟩
      clear HB HG
      go_wp2
      have hE := HE.out
      simp only [Prod.mk.injEq] at hE
      obtain ⟨e1, e2, e3⟩ := hE
      subst e1 e2 e3
      go_ret3
      exact ⟨rfl, Drawn0.refl _⟩

end Go.Proofs.Ytckecoemgadieaa.G
