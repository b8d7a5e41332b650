/- VarintTexts: texts put behind octets, and any octets read as a text, are as the page says; they stay. No program here. -/
import Derived.Test.YtckecoemgadieaaQBase
import Derived.Test.YtckecoemgadieaaQOpen
import Derived.Test.YtckecoemgadieaaPVarint
import Derived.Test.YtckecoemgadieaaPVarintG
import Derived.Test.YtckecoemgadieaaPVarintText
import Derived.Test.YtckecoemgadieaaPVarintTexts
import Derived.Test.YtckecoemgadieaaPVarintRefTexts
import Derived.Test.YtckecoemgadieaaGx25
set_option linter.unusedVariables false
set_option linter.unusedSimpArgs false
namespace Go.Proofs.Ytckecoemgadieaa.Pure
open WB Go Go.RowKit Go.Proofs.Ytckecoemgadieaa.G Go.Proofs.Ytckecoemgadieaa.V Go.Proofs.YtckecoemgadieaaW.PrintWords Go.Proofs.YtckecoemgadieaaW.PrintLast Go.Proofs.YtckecoemgadieaaW.PrintMore
theorem VarintTexts (b s t : List Int) (a most : Int) (hw0 : ∀ x ∈ b, (Lit.int .u8 x).wf = true) (hw1 : ∀ x ∈ s, (Lit.int .u8 x).wf = true) (hw2 : ∀ x ∈ t, (Lit.int .u8 x).wf = true)
    (hw3 : (Lit.int .i64 a).wf = true) (hw4 : (Lit.int .i64 most).wf = true)
    (_ : b.length * 1 ≤ reachBytes ∧ ∀ x ∈ b, True) (_ : s.length * 1 ≤ reachBytes ∧ ∀ x ∈ s, True) (_ : t.length * 1 ≤ reachBytes ∧ ∀ x ∈ t, True) (_ : True) (_ : True)
    (hb : (lsum (fun _ => 1) b + 1) + ((lsum (fun _ => 1) s + 1) + ((lsum (fun _ => 1) t + 1) + (1 + (1 + 0)))) ≤ 1048576) : ∃ k, waybilllaw01_VarintTexts.f k b s t a most = some true := by
  rw [lsum_one, lsum_one, lsum_one] at hb
  have hok := ok_of_wf hw0
  have hm := i64_of_wf hw4
  have ht1 := txt_len (s := s) (by omega)
  obtain ⟨K1, h1⟩ := alive_f
  obtain ⟨K2, h2⟩ := texts_f b [s, t] (by simp) (by simp [lsum]; omega)
  obtain ⟨K3, h3⟩ := reftexts_f b s (by omega)
  obtain ⟨K4, h4⟩ := reftexts_f (b ++ txt s) t (by rw [List.length_append]; omega)
  obtain ⟨K, hK⟩ : ∃ K, K = K1 + K2 + K3 + K4 + 1 := ⟨_, rfl⟩
  have a1 := h1 K (by omega)
  have a2 := h2 K (by omega)
  have a3 := h3 K (by omega)
  have a4 := h4 K (by omega)
  obtain ⟨t1, t2⟩ := text_f b hok (by omega) a most hm.1 hm.2 K (by omega)
  dsimp only at a1 a2 a3 a4
  rw [show b ++ txts [s, t] = b ++ txt s ++ txt t by simp [txts]] at a2
  refine ⟨K, ?_⟩
  unfold waybilllaw01_VarintTexts.f waybilllaw01_num.f
  rw [copybytes_f b (by omega), Option.bind_some, t1, Option.bind_some, t2, Option.bind_some, same_self, Option.bind_some, if_pos rfl, if_pos rfl, Option.bind_some, if_pos rfl]
  rw [a2]
  rw [Option.bind_some, a3, Option.bind_some, a4, Option.bind_some, same_self, Option.bind_some, if_pos rfl, same_self, Option.bind_some, if_pos rfl, a1]
  rfl
end Go.Proofs.Ytckecoemgadieaa.Pure
