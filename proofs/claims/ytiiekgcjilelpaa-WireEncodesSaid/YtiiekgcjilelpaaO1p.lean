/- O1. -/
import Derived.Test.YtiiekgcjilelpaaE4p
import Derived.Test.YtiiekgcjilelpaaE3p
set_option linter.unusedSimpArgs false
set_option linter.unusedVariables false
namespace Go.Proofs.Ytiiekgcjilelpaa
open Go.RowKit
section
variable {β:Type} {I:ObI β} {P:Program}
end
end Go.Proofs.Ytiiekgcjilelpaa
