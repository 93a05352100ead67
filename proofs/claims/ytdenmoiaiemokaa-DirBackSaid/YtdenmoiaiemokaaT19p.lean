/- T19. -/
import Derived.Test.YtdenmoiaiemokaaT18p
set_option linter.unusedVariables false
set_option linter.unusedSimpArgs false
namespace Go.Proofs.Ytdenmoiaiemokaa
open Go.RowKit
section
variable {β:Type} {S:Sy β} {I:ObI β} {W0:World} {G:Nat→Prop} {L:Lps β} {P:Program} {w w':World} {E e e':Env} {MEM mem ms:Mem β} {hard:β→Bool}
end
end Go.Proofs.Ytdenmoiaiemokaa
