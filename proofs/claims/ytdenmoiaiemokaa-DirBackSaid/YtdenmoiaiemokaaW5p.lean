/- W5. -/
import Derived.Test.YtdenmoiaiemokaaW4p
set_option linter.unusedVariables false
set_option linter.unusedSimpArgs false
namespace Go.Proofs.Ytdenmoiaiemokaa
open Go.RowKit
theorem nil_rows {t:TypeId} {ks:List Bool} {X:List Rw} (h:X=[]):∀ w,Id'.holds (Th.ext (Dk.flat (FL.rw t ks X)):Td) w nilV∧∀ j,¬ Id'.foot (Th.ext (Dk.flat (FL.rw t ks X)):Td) w nilV j:=by
 subst h
 exact fun w=>⟨⟨(fun r hr=>by cases hr),0,Nat.zero_le _,owns_nilV w 0 _ _⟩,(fun j h=>by cases h)⟩
def nrm4 (r:Rw):Rw:=⟨[r.is.getD 0 0,r.is.getD 1 0,r.is.getD 2 0],[r.ss.getD 0 ⟨#[]⟩]⟩
end Go.Proofs.Ytdenmoiaiemokaa
