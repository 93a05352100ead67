/- L8. -/
import Derived.Test.YtonomiljclemnaaL7p
set_option linter.unusedVariables false
set_option linter.unusedSimpArgs false
namespace Go.Proofs.Ytonomiljclemnaa
open Go.RowKit
def Pc.cut (p : Pc) : Pc := { p with d := p.d.take 120 }
end Go.Proofs.Ytonomiljclemnaa
