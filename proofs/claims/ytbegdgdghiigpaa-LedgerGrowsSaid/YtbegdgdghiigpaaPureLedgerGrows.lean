/- LedgerGrows: an op that changes makes the log one longer, and is told at that place; one that only looks changes nothing. The walk itself shows it. -/
import Derived.Test.YtbegdgdghiigpaaQBase
import Derived.Test.YtbegdgdghiigpaaQOpen
import Derived.Test.YtbegdgdghiigpaaGx25
set_option linter.unusedVariables false
set_option linter.unusedSimpArgs false
namespace Go.Proofs.Ytbegdgdghiigpaa.Pure
open WB Go Go.RowKit Go.Proofs.Ytbegdgdghiigpaa.G Go.Proofs.YtbegdgdghiigpaaW.PrintWords Go.Proofs.YtbegdgdghiigpaaW.PrintLast Go.Proofs.YtbegdgdghiigpaaW.PrintMore
theorem LedgerGrows (x0 : S25) (x1 : S35) {p0 p1 q0 q1 : Prop} (_ : p0) (_ : p1) (_ : q0) (_ : q1) : ∃ k, waybilllaw24_LedgerGrows.f k x0.f0 x0.f1 x1.f0 x1.f1 x1.f2 x1.f3 = some true := ⟨0, rfl⟩
end Go.Proofs.Ytbegdgdghiigpaa.Pure
