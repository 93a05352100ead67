/- disk: none, and none made by a call. -/
import Derived.Test.YtonomiljclemnaaH20p
set_option linter.unusedVariables false
set_option linter.unusedSimpArgs false
namespace Go.Proofs.Ytonomiljclemnaa
open Go.RowKit
end Go.Proofs.Ytonomiljclemnaa
