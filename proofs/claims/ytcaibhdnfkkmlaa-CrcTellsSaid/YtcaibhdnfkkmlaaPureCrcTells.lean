/- CrcTells: any sum, gone on with, gone back, octets that force one, and octets with bits turned, are as the page says; octets stay. No program here. -/
import Derived.Test.YtcaibhdnfkkmlaaQBase
import Derived.Test.YtcaibhdnfkkmlaaQCrc
import Derived.Test.YtcaibhdnfkkmlaaPCrcUn
import Derived.Test.YtcaibhdnfkkmlaaPCrcUnF
import Derived.Test.YtcaibhdnfkkmlaaPCrcWord
import Derived.Test.YtcaibhdnfkkmlaaPCrcRef
import Derived.Test.YtcaibhdnfkkmlaaGx34
set_option linter.unusedVariables false
set_option linter.unusedSimpArgs false
namespace Go.Proofs.Ytcaibhdnfkkmlaa.Pure
open WB Go Go.RowKit Go.Proofs.Ytcaibhdnfkkmlaa.G Go.Proofs.Ytcaibhdnfkkmlaa.V Go.Proofs.YtcaibhdnfkkmlaaW.PrintWords Go.Proofs.YtcaibhdnfkkmlaaW.PrintLast Go.Proofs.YtcaibhdnfkkmlaaW.PrintMore
theorem CrcTells : waybilllaw02_CrcTells.Pure := by
  intro a b c at_ t _ hla hwa _ hlb hwb hc hat ht
  have ha := ok_of_wf hwa
  have hb := ok_of_wf hwb
  have hc' := u32_of_wf hc
  have ht' := u32_of_wf ht
  have hat' := i64_of_wf hat
  obtain ⟨C, rfl⟩ : ∃ C : BitVec 32, c = ofB C := ⟨toB c, (ofB_toB c hc'.1 hc'.2).symm⟩
  obtain ⟨K1, h1⟩ := refsum_f a ha (by omega)
  obtain ⟨K2, h2⟩ := refmore_f b hb (by omega) (~~~ (runO (BitVec.allOnes 32) a))
  obtain ⟨K3, h3⟩ := refmore_f a ha (by omega) C
  obtain ⟨K4, h4⟩ := refback_f a ha (by omega) C
  obtain ⟨K5, h5⟩ := refforce_f a ha (by omega) C
  obtain ⟨K, hK⟩ : ∃ K, K = K1 + K2 + K3 + K4 + K5 + 40 := ⟨_, rfl⟩
  have a1 : waybillref02_Sum.f K a = _ := h1 K (by omega)
  have a2 : waybillref02_More.f K _ b = _ := h2 K (by omega)
  have a3 : waybillref02_More.f K (ofB C) a = _ := h3 K (by omega)
  have a4 : waybillref02_Back.f K (ofB C) a = _ := h4 K (by omega)
  have a5 : waybillref02_Force.f K a (ofB C) = _ := h5 K (by omega)
  obtain ⟨r, e, hr, u1, u2⟩ := unlike_same a at_ t ha (by omega) hat'.1 hat'.2 ht'.1 ht'.2 K (by omega)
  have hs : crc_Sum.f [a, b] = some (ofB (~~~ (runO (runO (BitVec.allOnes 32) a) b))) := by
    rw [sum_f _ (by simp [ha, hb]), ← runO_append]
    simp
  have hm : crc_More.f (ofB C) a = some (ofB (~~~ (runO (~~~C) a))) := by
    unfold crc_More.f
    rw [if_pos ⟨⟨ofB_nonneg C, ofB_lt C⟩, ha⟩, toB_ofB]
  have hk : crc_Back.f (ofB C) a = some (ofB (~~~ (unrun (~~~C) a))) := by
    unfold crc_Back.f
    rw [if_pos ⟨⟨ofB_nonneg C, ofB_lt C⟩, ha⟩, toB_ofB]
  have hf : crc_Force.f a (ofB C) = some (octets4 (ofB (~~~ (runO (BitVec.allOnes 32) a) ^^^ ~~~ (unrun (~~~C) [0, 0, 0, 0])))) := by
    unfold crc_Force.f
    rw [if_pos ⟨⟨ofB_nonneg C, ofB_lt C⟩, ha⟩, toB_ofB]
  refine ⟨K, ?_⟩
  unfold waybilllaw02_CrcTells.f
  rw [copybytes_f a (by omega), Option.bind_some, copybytes_f b (by omega), Option.bind_some, u1, Option.bind_some, u2, Option.bind_some, hs, Option.bind_some, a1, Option.bind_some, a2, Option.bind_some, BitVec.not_not, if_pos rfl, hm, Option.bind_some, a3, Option.bind_some, if_pos rfl, hk, Option.bind_some, a4, Option.bind_some, if_pos rfl, hf, Option.bind_some, a5, Option.bind_some, same_self, Option.bind_some]
  obtain ⟨k, rfl⟩ : ∃ m, K = m + 1 := ⟨K - 1, by omega⟩
  rw [waybilllaw02_CrcTells.j0, if_neg (by simp), same_self, Option.bind_some, if_pos rfl]
  unfold waybilllaw02_num.f waybilllaw02_alive.f
  rw [Option.bind_some, if_pos rfl, same_self, Option.bind_some, if_pos rfl, same_self, Option.bind_some, if_pos rfl, Option.bind_some]
end Go.Proofs.Ytcaibhdnfkkmlaa.Pure
