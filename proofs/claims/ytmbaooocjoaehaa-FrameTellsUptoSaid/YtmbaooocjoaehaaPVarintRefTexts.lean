/- The reference's text with its length. -/
import Derived.Test.YtmbaooocjoaehaaQBase
import Derived.Test.YtmbaooocjoaehaaQOpen
import Derived.Test.YtmbaooocjoaehaaPVarint
import Derived.Test.YtmbaooocjoaehaaPVarintG
import Derived.Test.YtmbaooocjoaehaaPVarintTexts
import Derived.Test.YtmbaooocjoaehaaGx6
set_option linter.unusedVariables false
set_option linter.unusedSimpArgs false
namespace Go.Proofs.Ytmbaooocjoaehaa.V
open WB Go Go.RowKit Go.Proofs.Ytmbaooocjoaehaa.G Go.Proofs.YtmbaooocjoaehaaW.PrintWords Go.Proofs.YtmbaooocjoaehaaW.PrintLast Go.Proofs.YtmbaooocjoaehaaW.PrintMore
theorem reftexts_f (l s : List Int) (hl : l.length + s.length + 20 < 140737488355328) : Ev (fun k => waybillref01_Texts.f k l s) (l ++ txt s) := by
  have hel := enc_len_10 (n := s.length) (by omega)
  obtain ⟨K, h⟩ := refput_f l (s.length : Int) (by omega) (by omega) (by omega)
  refine ⟨K, fun k hk => ?_⟩
  have a := h k hk
  dsimp only at a ⊢
  unfold waybillref01_Texts.f
  have hw : IntKind.u64.wrap (s.length : Int) = (s.length : Int) := by rw [IntKind.wrap_u64]; omega
  rw [Int.toNat_natCast] at a
  rw [hw, a, Option.bind_some, if_pos (by rw [List.length_append]; omega)]
  simp [txt]
end Go.Proofs.Ytmbaooocjoaehaa.V
