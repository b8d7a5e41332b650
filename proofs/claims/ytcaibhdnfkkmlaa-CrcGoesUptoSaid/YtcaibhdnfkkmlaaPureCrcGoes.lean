/- CrcGoes: the sum of two texts is the first one's, gone on with the second; gone back it is the first one's. No program here. -/
import Derived.Test.YtcaibhdnfkkmlaaQBase
import Derived.Test.YtcaibhdnfkkmlaaQOpen
import Derived.Test.YtcaibhdnfkkmlaaQCrc
import Derived.Test.YtcaibhdnfkkmlaaPCrcUn
import Derived.Test.YtcaibhdnfkkmlaaPCrcUnF
import Derived.Test.YtcaibhdnfkkmlaaGx26
set_option linter.unusedVariables false
set_option linter.unusedSimpArgs false
namespace Go.Proofs.Ytcaibhdnfkkmlaa.Pure
open WB Go Go.RowKit Go.Proofs.Ytcaibhdnfkkmlaa.G Go.Proofs.Ytcaibhdnfkkmlaa.V Go.Proofs.YtcaibhdnfkkmlaaW.PrintWords Go.Proofs.YtcaibhdnfkkmlaaW.PrintLast Go.Proofs.YtcaibhdnfkkmlaaW.PrintMore
theorem CrcGoes (a : List Int) (b : List Int) (hw0 : ∀ x ∈ a, (Lit.int .u8 x).wf = true) (hw1 : ∀ x ∈ b, (Lit.int .u8 x).wf = true)
    (_ : a.length * 1 ≤ reachBytes ∧ ∀ x ∈ a, True) (_ : b.length * 1 ≤ reachBytes ∧ ∀ x ∈ b, True)
    (hb : (lsum (fun _ => 1) a + 1) + ((lsum (fun _ => 1) b + 1) + 0) ≤ 1048576) : waybilllaw02_CrcGoes.f a b = some true := by
  rw [lsum_one, lsum_one] at hb
  have ha := ok_of_wf hw0
  have hbk := ok_of_wf hw1
  have hab : octetsOk (a ++ b) = true := by
    unfold octetsOk at ha hbk ⊢
    rw [List.all_append, ha, hbk]
    rfl
  have hm : ∀ c : BitVec 32, crc_More.f (ofB c) b = some (ofB (~~~ (runO (~~~c) b))) := fun c => by
    unfold crc_More.f
    rw [if_pos ⟨⟨ofB_nonneg c, ofB_lt c⟩, hbk⟩, toB_ofB]
  have hk : ∀ c : BitVec 32, crc_Back.f (ofB c) b = some (ofB (~~~ (unrun (~~~c) b))) := fun c => by
    unfold crc_Back.f
    rw [if_pos ⟨⟨ofB_nonneg c, ofB_lt c⟩, hbk⟩, toB_ofB]
  have hs2 : crc_Sum.f [a, b] = some (ofB (~~~ (runO (BitVec.allOnes 32) (a ++ b)))) := by
    rw [sum_f _ (by simp [ha, hbk])]
    simp
  unfold waybilllaw02_CrcGoes.f waybilllaw02_alive.f
  rw [Option.bind_some, if_pos rfl, sum_one a ha, Option.bind_some, hm, Option.bind_some, copybytes_f a (by omega), Option.bind_some, if_pos (by omega), sum_one _ hab, Option.bind_some, BitVec.not_not, runO_append, if_pos rfl, hs2, Option.bind_some, runO_append, if_pos rfl, hk, Option.bind_some, BitVec.not_not, unrun_run, Option.bind_some]
  simp
end Go.Proofs.Ytcaibhdnfkkmlaa.Pure
