/- W3. -/
import Derived.Test.YtdenmoiaiemokaaW2p
set_option linter.unusedVariables false
set_option linter.unusedSimpArgs false
namespace Go.Proofs.Ytdenmoiaiemokaa
open Go.RowKit
def nmR (R:List Rw) (i:Int):ByteArray:=(R.getD i.toNat Rw.zero).ss.getD 0 ⟨#[]⟩
end Go.Proofs.Ytdenmoiaiemokaa
