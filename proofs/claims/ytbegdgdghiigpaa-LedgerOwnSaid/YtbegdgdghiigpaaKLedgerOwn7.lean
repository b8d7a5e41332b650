/- LedgerOwn: texts of this claim, packed: what the kit's print has written for it and own texts, without what its proof does not reach. -/
import Derived.Test.YtbegdgdghiigpaaKLedgerOwn5
set_option linter.unusedVariables false
set_option linter.unusedSimpArgs false
set_option linter.unusedSectionVars false
section
namespace WB
open Go Go.RowKit
open Go.Proofs.YtbegdgdghiigpaaW.PrintWords
theorem am {p : Prop} (h : p) : Aside0 p := ⟨h⟩
end WB
end
