/- W5. -/
import Derived.Test.YtdenmoiaiemokaaW4p
set_option linter.unusedVariables false
set_option linter.unusedSimpArgs false
namespace Go.Proofs.Ytdenmoiaiemokaa
open Go.RowKit
def nrm4 (r:Rw):Rw:=⟨[r.is.getD 0 0,r.is.getD 1 0,r.is.getD 2 0],[r.ss.getD 0 ⟨#[]⟩]⟩
end Go.Proofs.Ytdenmoiaiemokaa
