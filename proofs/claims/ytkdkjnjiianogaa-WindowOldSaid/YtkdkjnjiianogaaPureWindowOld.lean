/- WindowOld: a seq that is done, or old, is never new again, whatever is put and forgotten behind it. The walk itself shows it. -/
import Derived.Test.YtkdkjnjiianogaaQBase
import Derived.Test.YtkdkjnjiianogaaQOpen
import Derived.Test.YtkdkjnjiianogaaGx14
set_option linter.unusedVariables false
set_option linter.unusedSimpArgs false
namespace Go.Proofs.Ytkdkjnjiianogaa.Pure
open WB Go Go.RowKit Go.Proofs.Ytkdkjnjiianogaa.G Go.Proofs.YtkdkjnjiianogaaW.PrintWords Go.Proofs.YtkdkjnjiianogaaW.PrintLast Go.Proofs.YtkdkjnjiianogaaW.PrintMore
theorem WindowOld (x0 : S24) (x1 x2 : Int) (x3 : List S32) (x4 : List Int) {p0 p1 p2 p3 p4 q0 q1 q2 q3 q4 : Prop} (_ : p0) (_ : p1) (_ : p2) (_ : p3) (_ : p4) (_ : q0) (_ : q1) (_ : q2) (_ : q3) (_ : q4) : waybilllaw22_WindowOld.f x0.f0 x0.f1 x1 x2 x3 x4 = some true := rfl
end Go.Proofs.Ytkdkjnjiianogaa.Pure
