/- L7. -/
import Derived.Test.YtonomiljclemnaaL6p
set_option linter.unusedVariables false
set_option linter.unusedSimpArgs false
namespace Go.Proofs.Ytonomiljclemnaa
open Go.RowKit
end Go.Proofs.Ytonomiljclemnaa
