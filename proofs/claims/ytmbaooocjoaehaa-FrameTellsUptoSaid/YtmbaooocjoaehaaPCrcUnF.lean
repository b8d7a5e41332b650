/- What the program's own texts come to: octets with bits turned. -/
import Derived.Test.YtmbaooocjoaehaaQBase
import Derived.Test.YtmbaooocjoaehaaQCrc
import Derived.Test.YtmbaooocjoaehaaWMore
import Derived.Test.YtmbaooocjoaehaaPCrcUn
import Derived.Test.YtmbaooocjoaehaaGx1
set_option linter.unusedVariables false
set_option linter.unusedSimpArgs false
namespace Go.Proofs.Ytmbaooocjoaehaa.V
open WB Go Go.RowKit Go.Proofs.Ytmbaooocjoaehaa.G Go.Proofs.YtmbaooocjoaehaaW.PrintWords Go.Proofs.YtmbaooocjoaehaaW.PrintLast Go.Proofs.YtmbaooocjoaehaaW.PrintMore
theorem sum_f (l : List (List Int)) (h : l.all octetsOk = true) : crc_Sum.f l = some (ofB (~~~ (runO (BitVec.allOnes 32) l.flatten))) := by
  unfold crc_Sum.f
  rw [if_pos h]
theorem sum_one (l : List Int) (h : octetsOk l = true) : crc_Sum.f [l] = some (ofB (~~~ (runO (BitVec.allOnes 32) l))) := by
  rw [sum_f [l] (by simp [h])]
  simp
theorem not_inj {a b : BitVec 32} : ofB (~~~a) = ofB (~~~b) ↔ a = b := ⟨fun h => BitVec.not_inj.1 (ofB_inj h), fun h => by rw [h]⟩
end Go.Proofs.Ytmbaooocjoaehaa.V
