/- MsgAnswers. -/
import Derived.Test.YtcekfgcajcjooaaM23
import Derived.Test.YtcekfgcajcjooaaMRd
set_option linter.unusedVariables false
set_option linter.unusedSimpArgs false
namespace Go.Proofs.Ytcekfgcajcjooaa
open Go.RowKit

theorem msgAnswers_calls (m : Msg × Value) (e : Int) (W : World) (hm : Es W m.2 m.1.en) (he : -9223372036854775808 ≤ e ∧ e ≤ 9223372036854775807) : Calls Try.prog 9 #[.agg (m.1.vals m.2).toArray, .int .i64 e] W fun r w' => r = .returned (.bool true) ∧ Below W.heap.size W w' := by
  obtain ⟨m, v⟩ := m
  refine (lawAnswers_c m.ty m.cl m.ss m.sq m.bo m.kd m.er m.f1 m.f2 m.d1 m.d2 m.nm m.ot m.mo m.pl m.da m.ve m.en v e W hm).mono fun r w' h => ⟨?_, h.2.below⟩
  rw [h.1]
  exact congrArg (fun b => Ending.returned (.bool b)) (anL_true m e)
end Go.Proofs.Ytcekfgcajcjooaa
