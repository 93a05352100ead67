/- MsgChecks, walked. -/
import Derived.Test.YtklemhmdbfhcdaaM18
import Derived.Test.YtklemhmdbfhcdaaM15


set_option linter.unusedVariables false
set_option linter.unusedSimpArgs false
namespace Go.Proofs.Ytklemhmdbfhcdaa
open Go.RowKit

def with8 (m : Msg) : Msg := ⟨m.ty, 8, m.ss, m.sq, m.bo, m.kd, m.er, m.f1, m.f2, m.d1, m.d2, m.nm, m.ot, m.mo, m.pl, m.da, m.ve, m.en⟩
/-- The law MsgChecks, in plain words. -/
def chA (m : Msg) : Bool := (checkI (shortMsg (shortMsg m)) == 0) == isR (shortMsg m)
def chB (m : Msg) : Bool := chA m && (isR (shortMsg m) || checkI (shortMsg (shortMsg m)) == 4)
def chC (m : Msg) : Bool := chB m && checkI (with8 (shortMsg (shortMsg m))) == 4
def chL (m : Msg) : Bool := chC m && sameE (shortMsg m).en (shortMsg (shortMsg m)).en && true
end Go.Proofs.Ytklemhmdbfhcdaa
