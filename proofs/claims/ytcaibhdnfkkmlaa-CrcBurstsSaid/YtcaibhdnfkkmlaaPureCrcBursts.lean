/- CrcBursts: up to 32 bits in a row that are turned are told. No program here. -/
import Derived.Test.YtcaibhdnfkkmlaaQBase
import Derived.Test.YtcaibhdnfkkmlaaQCrc
import Derived.Test.YtcaibhdnfkkmlaaPCrcUn
import Derived.Test.YtcaibhdnfkkmlaaPCrcUnF
import Derived.Test.YtcaibhdnfkkmlaaGx12
set_option linter.unusedVariables false
set_option linter.unusedSimpArgs false
namespace Go.Proofs.Ytcaibhdnfkkmlaa.Pure
open WB Go Go.RowKit Go.Proofs.Ytcaibhdnfkkmlaa.G Go.Proofs.Ytcaibhdnfkkmlaa.V Go.Proofs.YtcaibhdnfkkmlaaW.PrintWords Go.Proofs.YtcaibhdnfkkmlaaW.PrintLast Go.Proofs.YtcaibhdnfkkmlaaW.PrintMore
theorem CrcBursts : waybilllaw02_CrcBursts.Pure := by
  intro l at_ t _ hl hw ha ht
  have hok := ok_of_wf hw
  have ht' := u32_of_wf ht
  refine ⟨40, ?_⟩
  unfold waybilllaw02_CrcBursts.f waybilllaw02_alive.f
  rw [Option.bind_some, if_pos rfl]
  rcases unlike_f l at_ t hok (by omega) (i64_of_wf ha).1 ht'.1 ht'.2 40 (Nat.le_refl _) with ⟨_, hu⟩ | ⟨a, T, r, rfl, rfl, hT, h32, hu, htu⟩
  · rw [hu, Option.bind_some]
    unfold waybilllaw02_num.f
    rw [Option.bind_some, if_neg (by omega)]
    rfl
  · rw [hu, Option.bind_some]
    unfold waybilllaw02_num.f
    rw [Option.bind_some, if_pos rfl, sum_one r htu.ok, Option.bind_some, sum_one l hok, Option.bind_some, turned_run htu hok h32]
    congr 1
    rw [beq_iff_eq, Bool.eq_iff_iff, beq_iff_eq, beq_iff_eq, not_inj]
    have hz := stps_eq_zero (32 + (8 * l.length - a - 32)) (BitVec.ofNat 32 T)
    constructor
    · intro h
      have h2 : stps (32 + (8 * l.length - a - 32)) (BitVec.ofNat 32 T) = 0#32 := by
        have := congrArg (fun x => runO (BitVec.allOnes 32) l ^^^ x) h
        simpa [← BitVec.xor_assoc] using this
      have h3 := congrArg BitVec.toNat (hz.1 h2)
      rw [BitVec.toNat_ofNat, Nat.mod_eq_of_lt (by omega)] at h3
      simp at h3
      omega
    · intro h
      obtain rfl : T = 0 := by omega
      rw [hz.2 rfl, BitVec.xor_zero]
end Go.Proofs.Ytcaibhdnfkkmlaa.Pure
