/- O1. -/
import Derived.Test.YtdenmoiaiemokaaE4p
import Derived.Test.YtdenmoiaiemokaaE3p
set_option linter.unusedSimpArgs false
set_option linter.unusedVariables false
namespace Go.Proofs.Ytdenmoiaiemokaa
open Go.RowKit
section
variable {β:Type} {I:ObI β} {P:Program}
end
end Go.Proofs.Ytdenmoiaiemokaa
