/- W1. -/
import Derived.Test.YtdenmoiaiemokaaH13p
import Derived.Lib.Bytealg
import Derived.Lib.Strings
import Derived.Lib.Slices
import Derived.Lib.Walk
set_option linter.unusedVariables false
set_option linter.unusedSimpArgs false
namespace Go.Proofs.Ytdenmoiaiemokaa
open Go.RowKit
end Go.Proofs.Ytdenmoiaiemokaa
