/- L12. -/
import Derived.Test.YtonomiljclemnaaL11p
set_option linter.unusedVariables false
set_option linter.unusedSimpArgs false
namespace Go.Proofs.Ytonomiljclemnaa
open Go.RowKit
def okN (p:Pc):Nat:=if p.ok then 0 else 2
def okL (p:Pc):List UInt8:=if p.ok then p.sec else []
end Go.Proofs.Ytonomiljclemnaa
