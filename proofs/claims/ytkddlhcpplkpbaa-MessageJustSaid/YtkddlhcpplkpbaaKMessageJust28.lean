/- MessageJust: texts of this claim, packed: what the kit's print has written for it and own texts, without what its proof does not reach. -/
import Derived.Test.YtkddlhcpplkpbaaKMessageJust0
import Derived.Test.YtkddlhcpplkpbaaKMessageJust2
import Derived.Test.YtkddlhcpplkpbaaKMessageJust6
import Derived.Test.YtkddlhcpplkpbaaKMessageJust13
import Derived.Test.YtkddlhcpplkpbaaKMessageJust25
import Derived.Test.YtkddlhcpplkpbaaKMessageJust26
import Derived.Test.YtkddlhcpplkpbaaKMessageJust27
import Derived.Laws.BitsAllLaws
import Derived.Laws.BitsLemmas
import Derived.WalkKit
set_option linter.unusedVariables false
set_option linter.unusedSimpArgs false
set_option linter.unusedSectionVars false
section
set_option maxRecDepth 100000
set_option linter.unusedVariables false
set_option linter.unusedSimpArgs false
namespace Go.Proofs.Ytkddlhcpplkpbaa.Pure
open WB Go Go.RowKit Go.Proofs.Ytkddlhcpplkpbaa.G Go.Proofs.Ytkddlhcpplkpbaa.V Go.Proofs.YtkddlhcpplkpbaaW.PrintWords Go.Proofs.YtkddlhcpplkpbaaW.PrintLast Go.Proofs.YtkddlhcpplkpbaaW.PrintMore
theorem MessageJust (l : List Int) (hw : ∀ a ∈ l, (Lit.int .u8 a).wf = true) {q : Prop} (hs : l.length * 1 ≤ reachBytes ∧ q) : ∃ k, waybilllaw09_MessageJust.f k l = some true := by
  have hok := ok_of_wf hw
  have hl : l.length < 140737488355328 := by have := hs.1; simp only [reachBytes] at this; omega
  obtain ⟨K1, h1⟩ := alive_f
  obtain ⟨K2, h2⟩ := decode_f l hok hl
  by_cases h0 : (decP l).1 = 0
  · obtain ⟨hM, he, hd⟩ := dec_just hok h0
    obtain ⟨K3, h3⟩ := encode_f (msgP (decP l)) (by have := hM.len; omega)
    rw [if_pos (chk_of hM), he] at h3
    refine ⟨K1 + K2 + K3, ?_⟩
    have a1 := h1 (K1 + K2 + K3) (by omega)
    have a2 := h2 (K1 + K2 + K3) (by omega)
    have a3 := h3 (K1 + K2 + K3) (by omega)
    dsimp only at a1 a2 a3
    unfold waybilllaw09_MessageJust.f
    rw [a1, Option.bind_some, if_pos rfl, a2, Option.bind_some, num_f, Option.bind_some, show (outP (decP l)).2.2.2.2.2.2.2.2.2.2.2.2 = (decP l).1 from rfl, if_pos h0]
    have a4 : message_Encode.f (K1 + K2 + K3) (outP (decP l)).1 (outP (decP l)).2.1 (outP (decP l)).2.2.1 (outP (decP l)).2.2.2.1 (outP (decP l)).2.2.2.2.1 (outP (decP l)).2.2.2.2.2.1 (outP (decP l)).2.2.2.2.2.2.1 (outP (decP l)).2.2.2.2.2.2.2.1 (outP (decP l)).2.2.2.2.2.2.2.2.1 (outP (decP l)).2.2.2.2.2.2.2.2.2.1 (outP (decP l)).2.2.2.2.2.2.2.2.2.2.1 (outP (decP l)).2.2.2.2.2.2.2.2.2.2.2.1 = some (l, 0) := a3
    rw [a4, Option.bind_some, num_f, Option.bind_some, if_pos rfl, same_self]
    rfl
  · obtain ⟨e1, e2⟩ := decP_err h0
    refine ⟨K1 + K2, ?_⟩
    have a1 := h1 (K1 + K2) (by omega)
    have a2 := h2 (K1 + K2) (by omega)
    dsimp only at a1 a2
    unfold waybilllaw09_MessageJust.f
    rw [a1, Option.bind_some, if_pos rfl, a2, Option.bind_some, num_f, Option.bind_some, show (outP (decP l)).2.2.2.2.2.2.2.2.2.2.2.2 = (decP l).1 from rfl, if_neg h0]
    have a4 := plainsame_self (⟨0, 0, 0, 0, 0, 0, 0, 0, 0, 0, 0, []⟩ : S25)
    unfold outP
    rw [e1, e2]
    dsimp only at a4 ⊢
    simp only [List.getD_nil]
    rw [a4]
    rfl
end Go.Proofs.Ytkddlhcpplkpbaa.Pure
end
