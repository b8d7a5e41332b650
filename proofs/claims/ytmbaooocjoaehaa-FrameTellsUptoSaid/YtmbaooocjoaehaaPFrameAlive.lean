/- The page's example. No program here. -/
import Derived.Test.YtmbaooocjoaehaaQBase
import Derived.Test.YtmbaooocjoaehaaQOpen
import Derived.Test.YtmbaooocjoaehaaQCrc
import Derived.Test.YtmbaooocjoaehaaPVarint
import Derived.Test.YtmbaooocjoaehaaPVarintG
import Derived.Test.YtmbaooocjoaehaaPVarintTexts
import Derived.Test.YtmbaooocjoaehaaPCrcUn
import Derived.Test.YtmbaooocjoaehaaPCrcUnF
import Derived.Test.YtmbaooocjoaehaaPFrame
import Derived.Test.YtmbaooocjoaehaaPFrameGet
import Derived.Test.YtmbaooocjoaehaaPSame
import Derived.Test.YtmbaooocjoaehaaGx3
import Derived.Test.YtmbaooocjoaehaaGx4
set_option linter.unusedVariables false
set_option linter.unusedSimpArgs false
namespace Go.Proofs.Ytmbaooocjoaehaa.V
open WB Go Go.RowKit Go.Proofs.Ytmbaooocjoaehaa.G Go.Proofs.YtmbaooocjoaehaaW.PrintWords Go.Proofs.YtmbaooocjoaehaaW.PrintLast Go.Proofs.YtmbaooocjoaehaaW.PrintMore
theorem num_f (x : Int) : waybilllaw03_num.f x = some x := rfl
theorem alive_f : waybilllaw03_alive.f = some true := rfl
end Go.Proofs.Ytmbaooocjoaehaa.V
