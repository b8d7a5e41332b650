-- Made by wip/tools/xprint.py (over the kit's print program) for this claim.
import Derived.Test.YtcaibhdnfkkmlaaGx0
import Derived.Test.YtcaibhdnfkkmlaaGx6
import Derived.Test.YtcaibhdnfkkmlaaGx22
namespace Go.Proofs.Ytcaibhdnfkkmlaa.G
open WB Go.RowKit Go.Proofs.YtcaibhdnfkkmlaaW.PrintWords Go.Proofs.YtcaibhdnfkkmlaaW.PrintLast Go.Proofs.YtcaibhdnfkkmlaaW.PrintMore
attribute [local go_sem] max2_int min2_int max_two min_two max_three min_three max_four min_four   -- for this text's walks alone
set_option linter.unusedVariables false
set_option linter.unusedSimpArgs false

/-! ### crc_Force: function 16 -/
def octets4 (x : Int) : List Int := [x % 256, x / 256 % 256, x / 65536 % 256, x / 16777216 % 256]
def crc_Force.f (l0 : List Int) (a1 : Int) : Option (List Int) := if (0 ≤ a1 ∧ a1 < 4294967296) ∧ octetsOk l0 then some (octets4 (ofB (~~~ (runO (BitVec.allOnes 32) l0) ^^^ ~~~ (unrun (~~~ (toB a1)) [0, 0, 0, 0])))) else none
set_option maxHeartbeats 2000000 in
set_option maxRecDepth 100000 in
theorem crc_Force.calls (A0 : Option Addr) (c0 : Nat) (l0 : List Int) (a1 : Int) (r : List Int) (w : World) (hr0 : Kd.C (Kd.int .u8) w A0 l0.length l0) (hc0 : l0.length ≤ c0) (h : crc_Force.f l0 a1 = some r) :
    Calls Try.prog 16 #[.slice A0 l0.length c0, .int .u32 a1] w fun e w' => ∃ v0_ : Value, e = .returned (v0_) ∧ Kd.R (Kd.int .u8) 5 w' w.heap.size (fun _ => True) v0_ r ∧ Below w.heap.size w w' := by
  unfold crc_Force.f at h
  split at h
  case isFalse => cases h
  case isTrue ho =>
  obtain rfl := Option.some.inj h
  have HS : Aside0 (crc_Sum.f [l0] = some (ofB (~~~ (runO (BitVec.allOnes 32) l0)))) := ⟨by unfold crc_Sum.f; rw [if_pos (by simp [ho.2])]; simp⟩
  have HBK : Aside0 (crc_Back.f a1 [0, 0, 0, 0] = some (ofB (~~~ (unrun (~~~ (toB a1)) [0, 0, 0, 0])))) := ⟨by unfold crc_Back.f; rw [if_pos ⟨ho.1, rfl⟩]⟩
  have HR := Aside0.mk hr0
  have HC := Aside0.mk hc0
  have hx := xor_B (~~~ (runO (BitVec.allOnes 32) l0)) (~~~ (unrun (~~~ (toB a1)) [0, 0, 0, 0]))
  have hle := ofB_lt (~~~ (runO (BitVec.allOnes 32) l0) ^^^ ~~~ (unrun (~~~ (toB a1)) [0, 0, 0, 0]))
  have hge := ofB_nonneg (~~~ (runO (BitVec.allOnes 32) l0) ^^^ ~~~ (unrun (~~~ (toB a1)) [0, 0, 0, 0]))
  obtain ⟨S, hS⟩ : ∃ S, S = ofB (~~~ (runO (BitVec.allOnes 32) l0)) := ⟨_, rfl⟩
  obtain ⟨K, hK⟩ : ∃ K, K = ofB (~~~ (unrun (~~~ (toB a1)) [0, 0, 0, 0])) := ⟨_, rfl⟩
  obtain ⟨X, hX⟩ : ∃ X, X = ofB (~~~ (runO (BitVec.allOnes 32) l0) ^^^ ~~~ (unrun (~~~ (toB a1)) [0, 0, 0, 0])) := ⟨_, rfl⟩
  rw [← hX] at hx hle hge ⊢
  rw [← hS] at hx HS
  rw [← hK] at hx HBK
  clear h hr0 hc0 ho hX hS hK
  have hmk : ∀ W, (Instr.makeSlice 22 (.int .i64 4) (.int .i64 4)).run Try.prog W = .ok (.slice (some ⟨W.heap.size, 0, none⟩) 4 4) (W.alloc (.cells #[.int .u8 0, .int .u8 0, .int .u8 0, .int .u8 0] 5)) := fun W => by kernel_rfl
  go_enter Try.func16, Try.ntmps16
  go_wp2
  go_region_with (first | (go_at_call 10; (refine (crc_Sum.calls _ _ [l0] S _ ?hs1 ?hs2 HS.out).mono ?_); (case hs1 => first | exact C_lit1 (heap_new1 _ _) HC.out (Kd.C_below HR.out (by repeat (first | exact Below.refl _ _ | apply below_alloc | apply below_drew | apply pw_below_drewN | apply below_drew1))) | exact C_lit1 (heap_new2 _ _ _) HC.out (Kd.C_below HR.out (by repeat (first | exact Below.refl _ _ | apply below_alloc | apply below_drew | apply pw_below_drewN | apply below_drew1))) | exact C_lit1 (blk_alloc (heap_new1 _ _) _) HC.out (Kd.C_below HR.out (by repeat (first | exact Below.refl _ _ | apply below_alloc | apply below_drew | apply pw_below_drewN | apply below_drew1)))); (case hs2 => exact Nat.le_refl _); rintro e w1 ⟨rfl, hb1⟩; have HB1 := Aside0.mk (below_then (w := w) (by repeat (first | exact Below.refl _ _ | apply below_alloc | apply below_drew | apply pw_below_drewN | apply below_drew1)) (by simp; try omega) hb1); have HZ1 := Aside0.mk hb1; clear hb1) | (go_at_call 18; (refine (crc_Back.calls _ _ _ [0, 0, 0, 0] K _ ?hs1 ?hs2 HBK.out).mono ?_); (case hs1 => first | exact C_ints (heap_new1 _ _) (by decide) rfl | exact C_ints ((HZ1.out.block _ (by simp)).trans (heap_new2 _ _ _)) (by decide) rfl | exact C_ints ((HZ1.out.block _ (by simp; try omega)).trans (blk_alloc (heap_new1 _ _) _)) (by decide) rfl); (case hs2 => exact Nat.le_refl _); rintro e w2 ⟨rfl, hb2⟩; have HB2 := Aside0.mk (below_then (w := w) (by repeat (first | exact HB1.out | apply below_alloc | apply below_drew | apply pw_below_drewN | apply below_drew1)) (by have := HB1.out.size; simp; try omega) hb2); clear hb2))
  all_goals
    go_wp2
    have hoct : octets4 X = [X % 256, X / 256 % 256, X / 65536 % 256, X / 16777216] := by unfold octets4; rw [show X / 16777216 % 256 = X / 16777216 by omega]
    go_ret
    rw [hoct]
    refine ⟨_, rfl, ?_, below_alloc HB2.out _⟩
    exact Kd.R_of_own (own_lit_of w2 w.heap.size 5 [X % 256, X / 256 % 256, X / 65536 % 256, X / 16777216] HB2.out.size (by simp)) (fun _ _ => trivial)

end Go.Proofs.Ytcaibhdnfkkmlaa.G
