-- Made by wip/tools/xprint.py (over the kit's print program) for this claim.
import Derived.Test.YtcaibhdnfkkmlaaGx0
import Derived.Test.YtcaibhdnfkkmlaaGx6
namespace Go.Proofs.Ytcaibhdnfkkmlaa.G
open WB Go.RowKit Go.Proofs.YtcaibhdnfkkmlaaW.PrintWords Go.Proofs.YtcaibhdnfkkmlaaW.PrintLast Go.Proofs.YtcaibhdnfkkmlaaW.PrintMore
attribute [local go_sem] max2_int min2_int max_two min_two max_three min_three max_four min_four   -- for this text's walks alone
set_option linter.unusedVariables false
set_option linter.unusedSimpArgs false

/-! ### waybilllaw02_alive: function 9 -/
def waybilllaw02_alive.f  : Option (Bool) := some true
set_option maxHeartbeats 2000000 in
set_option maxRecDepth 100000 in
theorem waybilllaw02_alive.calls  (r : Bool) (w : World) (h : waybilllaw02_alive.f  = some r) :
    Calls Try.prog 9 #[] w fun e w' => e = .returned (.bool r) ∧ Below w.heap.size w w' := by
  obtain rfl := Option.some.inj h
  clear h
  have HS : Aside0 (crc_Sum.f [[49, 50, 51, 52, 53, 54, 55, 56, 57]] = some 3421780262) := ⟨by kernel_rfl⟩
  go_enter Try.func9, Try.ntmps9
  go_wp2_with (first | ((with_reducible refine gate_dst (N := 1) rfl ?_); refine WB.bundle_lit (Kd.int .u8) 5 ?hg (N := 1) ?hd (xs := ([49, 50, 51, 52, 53, 54, 55, 56, 57] : List Int)) (inner := [.int .u8 49, .int .u8 50, .int .u8 51, .int .u8 52, .int .u8 53, .int .u8 54, .int .u8 55, .int .u8 56, .int .u8 57]) ?hr ?hp (by simp) ?_; (case hd => rfl); (case hg => rfl); (case hr => first | (go_simp; done) | (go_simp; rfl)); (case hp => exact Reps.one rfl (Reps.one rfl (Reps.one rfl (Reps.one rfl (Reps.one rfl (Reps.one rfl (Reps.one rfl (Reps.one rfl (Reps.one rfl (Reps.none _ _)))))))))); intro g1 w1 hg1 hc1 hb1; have HG1 := Aside0.mk hg1; have HC0 := Aside0.mk hc1; have HB0 := Aside0.mk hb1; clear hg1 hc1 hb1) | ((with_reducible refine gate_dst (N := 2) rfl ?_); refine wp_convert_octets rfl rfl Try.underlying22 Try.underlying5 rfl HB0.out HG1.out HC0.out ?_; intro w1a hc1 hb1; have HC1 := Aside0.mk hc1; have HB1 := Aside0.mk hb1; clear hc1 hb1) | ((with_reducible refine gate_dst (N := 3) rfl ?_); refine WB.bundle_lit (Kd.slice 5 (Kd.int .u8)) 22 ?hg (N := 3) ?hd (xs := ([[49, 50, 51, 52, 53, 54, 55, 56, 57]] : List (List Int))) (inner := [.slice (some ⟨g1, 0, none⟩) 9 9]) ?hr ?hp (by simp) ?_; (case hd => rfl); (case hg => rfl); (case hr => first | (go_simp; done) | (go_simp; rfl)); (case hp => exact Reps.one ⟨_, _, rfl, Nat.le_refl _, HC1.out⟩ (Reps.none _ _)); intro g2 w2 hg2 hc2 hb2; clear hg2; have HC2 := Aside0.mk hc2; have HB2 := Aside0.mk (below_then HB1.out HB1.out.size hb2); clear hc2 hb2) | (go_at_call 10; (refine (crc_Sum.calls (some ⟨g2, 0, none⟩) 1 [[49, 50, 51, 52, 53, 54, 55, 56, 57]] 3421780262 _ HC2.out (Nat.le_refl _) HS.out).mono ?_); rintro e w3 ⟨rfl, hb3⟩; have HB3 := Aside0.mk (below_then HB2.out HB2.out.size hb3); clear hb3))
  go_ret
  exact ⟨rfl, HB3.out⟩

end Go.Proofs.Ytcaibhdnfkkmlaa.G
