-- Made by wip/tools/xprint.py (over the kit's print program) for this claim.
import Derived.Test.YtcaibhdnfkkmlaaGx0
import Derived.Test.YtcaibhdnfkkmlaaGx5
namespace Go.Proofs.Ytcaibhdnfkkmlaa.G
open WB Go.RowKit Go.Proofs.YtcaibhdnfkkmlaaW.PrintWords Go.Proofs.YtcaibhdnfkkmlaaW.PrintLast Go.Proofs.YtcaibhdnfkkmlaaW.PrintMore
attribute [local go_sem] max2_int min2_int max_two min_two max_three min_three max_four min_four   -- for this text's walks alone
set_option linter.unusedVariables false
set_option linter.unusedSimpArgs false

/-! ### crc_More: function 17 -/
def crc_More.f (a0 : Int) (l1 : List Int) : Option (Int) := if (0 ≤ a0 ∧ a0 < 4294967296) ∧ octetsOk l1 then some (ofB (~~~ (runO (~~~ (toB a0)) l1))) else none
set_option maxHeartbeats 2000000 in
set_option maxRecDepth 100000 in
theorem crc_More.calls (a0 : Int) (A1 : Option Addr) (c1 : Nat) (l1 : List Int) (r : Int) (w : World) (hr1 : Kd.C (Kd.int .u8) w A1 l1.length l1) (hc1 : l1.length ≤ c1) (h : crc_More.f a0 l1 = some r) :
    Calls Try.prog 17 #[.int .u32 a0, .slice A1 l1.length c1] w fun e w' => e = .returned (.int .u32 r) ∧ Below w.heap.size w w' := by
  unfold crc_More.f at h
  split at h
  case isFalse => cases h
  case isTrue ho =>
  obtain rfl := Option.some.inj h
  clear h
  have HR := Aside0.mk hr1
  have HC := Aside0.mk hc1
  have HO := Aside0.mk ho.2
  have hat := crc_at (toB a0)
  rw [ofB_toB a0 ho.1.1 ho.1.2] at hat
  have HAT := fun W => Aside0.mk (hat W)
  have HAT' := Aside0.mk HAT
  clear hr1 hc1 ho hat HAT
  go_enter Try.func17, Try.ntmps17
  go_wp2_with (first | (go_at_call 24; (with_reducible refine ((HAT'.out _).out).mono ?_); rintro e w1 ⟨g, rfl, hg1, hg2, hb⟩; have HG1 := Aside0.mk hg1; have HG2 := Aside0.mk hg2; have HB1 := Aside0.mk hb; have HF := Aside0.mk (Kd.far_C 0 HR.out hg1); have HR1 := Aside0.mk (Kd.C_below HR.out hb); clear hg1 hg2 hb) | (go_at_call 25; (with_reducible refine (crc_on g _ A1 c1 l1 _ HG2.out HR1.out HC.out HF.out HO.out).mono ?_); rintro e w2 ⟨rfl, hg3, hk3, hw3⟩; have HG3 := Aside0.mk hg3; have HW3 := Aside0.mk hw3; clear hg3 hk3 hw3) | (go_at_call 26; (with_reducible refine (crc_sum g _ _ HG3.out).mono ?_); rintro e w2 ⟨rfl, rfl⟩))
  go_ret
  exact ⟨rfl, below_grown_own HB1.out HW3.out (fun q hq => by injection hq with hq; have := HG1.out; omega) HB1.out.size⟩

end Go.Proofs.Ytcaibhdnfkkmlaa.G
