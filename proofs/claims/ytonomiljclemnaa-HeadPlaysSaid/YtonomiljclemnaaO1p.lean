/- O1. -/
import Derived.Test.YtonomiljclemnaaE4p
import Derived.Test.YtonomiljclemnaaE3p
set_option linter.unusedVariables false
set_option linter.unusedSimpArgs false
namespace Go.Proofs.Ytonomiljclemnaa
open Go.RowKit
section
variable {β:Type} {I:ObI β} {P:Program}
end
end Go.Proofs.Ytonomiljclemnaa
