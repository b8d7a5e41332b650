-- Made by wip/tools/xprint.py (over the kit's print program) for this claim.
import Derived.Test.YtcaibhdnfkkmlaaGx0
import Derived.Test.YtcaibhdnfkkmlaaGx5
namespace Go.Proofs.Ytcaibhdnfkkmlaa.G
open WB Go.RowKit Go.Proofs.YtcaibhdnfkkmlaaW.PrintWords Go.Proofs.YtcaibhdnfkkmlaaW.PrintLast Go.Proofs.YtcaibhdnfkkmlaaW.PrintMore
attribute [local go_sem] max2_int min2_int max_two min_two max_three min_three max_four min_four   -- for this text's walks alone
set_option linter.unusedVariables false
set_option linter.unusedSimpArgs false

/-! ### crc_Sum: function 10 -/
def crc_Sum.f (l0 : List (List Int)) : Option (Int) := if l0.all octetsOk then some (ofB (~~~ (runO (BitVec.allOnes 32) l0.flatten))) else none
set_option maxHeartbeats 2000000 in
set_option maxRecDepth 100000 in
theorem crc_Sum.calls (A0 : Option Addr) (c0 : Nat) (l0 : List (List Int)) (r : Int) (w : World) (hr0 : Kd.C (Kd.slice 5 (Kd.int .u8)) w A0 l0.length l0) (hc0 : l0.length ≤ c0) (h : crc_Sum.f l0 = some r) :
    Calls Try.prog 10 #[.slice A0 l0.length c0] w fun e w' => e = .returned (.int .u32 r) ∧ Below w.heap.size w w' := by
  unfold crc_Sum.f at h
  split at h
  case isFalse => cases h
  case isTrue ho =>
  obtain rfl := Option.some.inj h
  clear h
  have HR := Aside0.mk hr0
  have HC := Aside0.mk hc0
  have HO := Aside0.mk ho
  have hmax : l0.length ≤ 9223372036854775807 := hr0.2.1
  have hat := crc_at 0#32
  rw [show ofB 0#32 = 0 from rfl, show (~~~ 0#32 : BitVec 32) = BitVec.allOnes 32 from rfl] at hat
  have HAT := fun W => Aside0.mk (hat W)
  have HAT' := Aside0.mk HAT
  clear hr0 hc0 ho hat HAT
  go_enter Try.func10, Try.ntmps10
  go_wp2_with (go_at_call 24; (with_reducible refine ((HAT'.out _).out).mono ?_); rintro e w1 ⟨g, rfl, hg1, hg2, hb⟩; have HG1 := Aside0.mk hg1; have HG2 := Aside0.mk hg2; have HB1 := Aside0.mk hb; clear hg1 hg2 hb)
  go_loopw [9] (fun v9 wr => ∃ k : Nat, v9 = .int .i64 k ∧ k ≤ l0.length ∧ Aside0 (wr.heap[g]? = some (.cells (#[.int .u32 (ofB (runO (BitVec.allOnes 32) (l0.take k).flatten))] ++ tabV) 54 (0, 0))) ∧ Aside0 (Below w.heap.size w wr)) (fun v9 _ => l0.length - (intOf v9).toNat)
  case atStart => exact ⟨0, rfl, by omega, HG2, HB1⟩
  case round =>
    obtain ⟨k, rfl, hk, HG, HB⟩ := hrel
    by_cases hlt : k < l0.length
    · have b1 : decide ((k : Int) < (l0.length : Int)) = true := decide_eq_true (by omega)
      have b1' : decide (k < l0.length) = true := decide_eq_true hlt
      obtain ⟨ad, A1, c1, e1, q0, q1, q2⟩ := at_rows (Kd.C_below HR.out HB.out) k hlt
      obtain ⟨ad', A1', c1', e1', q0', q1', q2'⟩ := at_rows HR.out k hlt
      have hx : l0.getD k [] ∈ l0 := by rw [List.getD_eq_getElem?_getD, List.getElem?_eq_getElem hlt]; exact List.getElem_mem hlt
      have HT : Aside0 ((l0.take (k + 1)).flatten = (l0.take k).flatten ++ l0.getD k []) := ⟨by rw [List.take_succ_eq_append_getElem hlt, List.flatten_append, List.getD_eq_getElem?_getD, List.getElem?_eq_getElem hlt]; simp⟩
      have HOX : Aside0 (octetsOk (l0.getD k []) = true) := ⟨List.all_eq_true.1 HO.out _ hx⟩
      obtain ⟨x, hxx⟩ : ∃ x, x = l0.getD k [] := ⟨_, rfl⟩
      rw [← hxx] at q0 q1 q2 HT HOX q0' q2'
      have hcel := (HB.out.cell (p := ad'.add k) (World.block_lt_of_cell? w _ q0')).trans q0'
      obtain rfl : ad = ad' := Option.some.inj (e1.symm.trans e1')
      have hAA := q0.symm.trans hcel
      obtain rfl : A1 = A1' := by injection hAA with h; injection h
      have HF := Aside0.mk (Kd.far_C 0 q2' HG1.out)
      have Q1 := Aside0.mk q1
      have Q2 := Aside0.mk q2
      have hwk : wrap64 ((k : Int) + 1) = ((k + 1 : Nat) : Int) := by unfold wrap64; omega
      clear hx hxx e1' q0' q1' q2' hcel hAA q1 q2
      subst e1
      go_wp2_with (go_at_call 25; (with_reducible refine (crc_on g _ A1 c1 x _ HG.out Q2.out Q1.out HF.out HOX.out).mono ?_); rintro e w2 ⟨rfl, hg3, hk3, hw3⟩; have HG3 := Aside0.mk hg3; have HW3 := Aside0.mk hw3; clear hg3 hk3 hw3)
      go_roundw
      case rel =>
        refine ⟨k + 1, by first | rw [hwk] | go_num, by omega, ⟨?_⟩, ⟨below_grown_own HB.out HW3.out (fun q hq => by injection hq with hq; have := HG1.out; omega) HB.out.size⟩⟩
        rw [HT.out, runO_append]
        exact HG3.out
      case measure => first | (rw [hwk]; simp [intOf]; omega) | (simp [intOf]; omega)
    · have b1 : decide ((k : Int) < (l0.length : Int)) = false := decide_eq_false (by omega)
      have b1' : decide (k < l0.length) = false := decide_eq_false hlt
      rw [List.take_of_length_le (by omega)] at HG
      go_wp2_with (go_at_call 26; (with_reducible refine (crc_sum g _ _ HG.out).mono ?_); rintro e w2 ⟨rfl, rfl⟩)
      go_ret
      exact ⟨rfl, HB.out⟩

end Go.Proofs.Ytcaibhdnfkkmlaa.G
