/- MsgChecks. -/
import Derived.Test.YtcekfgcajcjooaaM27
import Derived.Test.YtcekfgcajcjooaaMRd
set_option linter.unusedVariables false
set_option linter.unusedSimpArgs false
namespace Go.Proofs.Ytcekfgcajcjooaa
open Go.RowKit

theorem shortMsg_idem (m : Msg) : shortMsg (shortMsg m) = shortMsg m := by
  unfold shortMsg
  simp only [shortS_idem, shortL_idem]
theorem sameE_refl (l : List Ent) : sameE l l = true := by
  have h1 : eqE l l = true := range_all fun k _ => by simp [neE]
  simp [sameE, h1]
theorem chL_true (m : Msg) : chL m = true := by
  unfold chL chC chB chA
  rw [shortMsg_idem, check_is, sameE_refl, head8 (with8 (shortMsg m)) rfl, ← check_is]
  rcases checkI_04 (shortMsg m) with h | h <;> rw [h] <;> rfl
theorem msgChecks_calls (m : Msg × Value) (W : World) (hm : Es W m.2 m.1.en) : Calls Try.prog 6 #[.agg (m.1.vals m.2).toArray] W fun r w' => r = .returned (.bool true) ∧ Below W.heap.size W w' := by
  obtain ⟨m, v⟩ := m
  refine (lawChecks_c m.ty m.cl m.ss m.sq m.bo m.kd m.er m.f1 m.f2 m.d1 m.d2 m.nm m.ot m.mo m.pl m.da m.ve m.en v W hm).mono fun r w' h => ⟨?_, h.2.below⟩
  rw [h.1]
  exact congrArg (fun b => Ending.returned (.bool b)) (chL_true m)
end Go.Proofs.Ytcekfgcajcjooaa
