/- J10. -/
import Derived.Test.YtiiekgcjilelpaaJ8p
import Derived.Test.YtiiekgcjilelpaaOpenp
set_option linter.unusedSimpArgs false
set_option linter.unusedVariables false
namespace Go.Proofs.Ytiiekgcjilelpaa
open Go.RowKit Go.ChangeShapes Go.WideShapes Go.ChangeAt
theorem wireLong_calls (n:Int) (W:World) (_:-9223372036854775808≤n∧n≤9223372036854775807):Calls Try.prog 10 #[.int .i64 n] W fun e w'=>e=.returned (.bool true)∧Below W.heap.size W w':=by
 refine (wlong_c n W [] [.int .i64 n] (args_nil Id' W) ⟨rfl,trivial⟩).mono fun y w' ⟨u,e',h1,_,h2,h3⟩=>⟨h1.trans (congrArg _ h2),?_⟩
 have hx:Ext W w':=h3.mod.mono fun k _ hk=>by
  obtain ⟨i,_,m,_,hn,hmu,_⟩:=footE.1 hk
  cases i<;>simp at hn
 exact hx.below
end Go.Proofs.Ytiiekgcjilelpaa
