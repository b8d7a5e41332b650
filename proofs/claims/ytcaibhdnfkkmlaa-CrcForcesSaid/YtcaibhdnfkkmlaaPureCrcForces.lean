/- CrcForces: the four octets make the sum; four others don't. No program here. -/
import Derived.Test.YtcaibhdnfkkmlaaQBase
import Derived.Test.YtcaibhdnfkkmlaaQCrc
import Derived.Test.YtcaibhdnfkkmlaaPCrcUn
import Derived.Test.YtcaibhdnfkkmlaaPCrcUnF
import Derived.Test.YtcaibhdnfkkmlaaPCrcWord
import Derived.Test.YtcaibhdnfkkmlaaPSame
import Derived.Test.YtcaibhdnfkkmlaaGx24
set_option linter.unusedVariables false
set_option linter.unusedSimpArgs false
namespace Go.Proofs.Ytcaibhdnfkkmlaa.Pure
open WB Go Go.RowKit Go.Proofs.Ytcaibhdnfkkmlaa.G Go.Proofs.Ytcaibhdnfkkmlaa.V Go.Proofs.YtcaibhdnfkkmlaaW.PrintWords Go.Proofs.YtcaibhdnfkkmlaaW.PrintLast Go.Proofs.YtcaibhdnfkkmlaaW.PrintMore
theorem CrcForces : waybilllaw02_CrcForces.Pure := by
  intro l want other _ hl hw h1 h2
  have hok := ok_of_wf hw
  have hwt := u32_of_wf h1
  have hot := u32_of_wf h2
  obtain ⟨R, hR⟩ : ∃ R, R = runO (BitVec.allOnes 32) l := ⟨_, rfl⟩
  obtain ⟨X, hX⟩ : ∃ X, X = ~~~R ^^^ ~~~ (unrun (~~~ (toB want)) [0, 0, 0, 0]) := ⟨_, rfl⟩
  have hf : crc_Force.f l want = some (octets4 (ofB X)) := by
    unfold crc_Force.f
    rw [if_pos ⟨hwt, hok⟩, hX, hR]
  have hsum : ∀ o : BitVec 32, crc_Sum.f [l, octets4 (ofB o)] = some (ofB (~~~ (runO R (octets4 (ofB o))))) := fun o => by
    rw [sum_f _ (by simp [hok, octets4_ok]), hR, ← runO_append]
    simp
  have ho : octets4 (ofB (toB other)) = octets4 other := by rw [ofB_toB other hot.1 hot.2]
  unfold waybilllaw02_CrcForces.f waybilllaw02_alive.f
  rw [Option.bind_some, if_pos rfl, hf, Option.bind_some, Option.bind_some, if_pos (show ((octets4 (ofB X)).length : Int) = 4 from rfl), hsum, Option.bind_some, hX, forced, ofB_toB want hwt.1 hwt.2, if_pos rfl, ← hX]
  rw [show ([other % 256, other / 256 % 256, other / 65536 % 256, other / 16777216 % 256] : List Int) = octets4 (ofB (toB other)) from ho.symm, hsum, Option.bind_some]
  unfold waybillplain_SameBytes.f
  rw [Option.bind_some, strs_eq _ _ (octets4_ok _) (octets4_ok _)]
  congr 1
  rw [beq_iff_eq, Bool.eq_iff_iff, beq_iff_eq, decide_eq_true_iff]
  constructor
  · intro h
    have h3 : ~~~ (runO R (octets4 (ofB (toB other)))) = toB want := by rw [← h, toB_ofB]
    rw [forced_only R (toB want) (toB other) h3, hX]
  · intro h
    rw [← octets4_inj h, hX, forced, ofB_toB want hwt.1 hwt.2]
end Go.Proofs.Ytcaibhdnfkkmlaa.Pure
