/- WindowOwn: what is told shares nothing with what was handed in. The walk itself shows it; here only that the arguments' sizes let it. -/
import Derived.Test.YtkdkjnjiianogaaQBase
import Derived.Test.YtkdkjnjiianogaaQOpen
import Derived.Test.YtkdkjnjiianogaaGx21
set_option linter.unusedVariables false
set_option linter.unusedSimpArgs false
namespace Go.Proofs.Ytkdkjnjiianogaa.Pure
open WB Go Go.RowKit Go.Proofs.Ytkdkjnjiianogaa.G Go.Proofs.YtkdkjnjiianogaaW.PrintWords Go.Proofs.YtkdkjnjiianogaaW.PrintLast Go.Proofs.YtkdkjnjiianogaaW.PrintMore
theorem WindowOwn (x0 : S24) (x1 : Int) (x2 : S32) {p0 p1 p2 q1 : Prop} (_ : p0) (_ : p1) (_ : p2) (hs0 : True ∧ (x0.f1.length * 40 ≤ reachBytes ∧ ∀ a ∈ x0.f1, True ∧ True ∧ (a.f2.length * 1 ≤ reachBytes ∧ ∀ b ∈ a.f2, True))) (_ : q1) (hs2 : True ∧ True ∧ (x2.f2.length * 1 ≤ reachBytes ∧ ∀ b ∈ x2.f2, True)) : waybilllaw22_WindowOwn.f x0.f0 x0.f1 x1 x2.f0 x2.f1 x2.f2 = some true := by
  unfold waybilllaw22_WindowOwn.f
  rw [if_pos]
  refine ⟨?_, fun d hd => ?_, ?_⟩
  · have := hs0.2.1
    simp only [reachBytes] at this
    omega
  · have := (hs0.2.2 d hd).2.2.1
    simp only [reachBytes] at this
    omega
  · have := hs2.2.2.1
    simp only [reachBytes] at this
    omega
end Go.Proofs.Ytkdkjnjiianogaa.Pure
