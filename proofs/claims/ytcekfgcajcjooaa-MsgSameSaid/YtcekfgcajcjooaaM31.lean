/- MsgSame: the plain law. -/
import Derived.Test.YtcekfgcajcjooaaM30
import Derived.Test.YtcekfgcajcjooaaM25
import Derived.Test.YtcekfgcajcjooaaM23



set_option linter.unusedVariables false
set_option linter.unusedSimpArgs false
namespace Go.Proofs.Ytcekfgcajcjooaa
open Go.RowKit

theorem sameM_eq (a b : Msg) : sameM a b = sameR a b := by
  unfold sameM sameR midSame filesSame
  generalize headSame a b = x0
  generalize fileSame a b = x1
  generalize dirSame a b = x2
  generalize eqS a.nm b.nm = x3
  generalize eqS a.ot b.ot = x4
  generalize (a.mo == b.mo) = x5
  generalize (a.pl == b.pl) = x6
  generalize eqS a.da b.da = x7
  generalize (a.ve == b.ve) = x8
  generalize sameE a.en b.en = x9
  cases x0 <;> simp [Bool.and_assoc]
theorem shortMsg_twice (m : Msg) : shortMsg (shortMsg m) = shortMsg m := by
  unfold shortMsg
  simp only [shortS_idem, shortL_idem]
theorem smL_true (a b : Msg) : smL a b = true := by
  unfold smL
  rw [sameM_eq, shortMsg_twice, sameM_eq, sameR_refl]
  simp
theorem msgSame_calls (a b : Msg × Value) (W : World) (ha : Es W a.2 a.1.en) (hb : Es W b.2 b.1.en) : Calls Try.prog 7 #[.agg (a.1.vals a.2).toArray, .agg (b.1.vals b.2).toArray] W fun r w' => r = .returned (.bool true) ∧ Below W.heap.size W w' := by
  obtain ⟨m, v⟩ := a
  obtain ⟨n, v'⟩ := b
  refine (lawSame_c m.ty m.cl m.ss m.sq m.bo m.kd m.er m.f1 m.f2 m.d1 m.d2 m.nm m.ot m.mo m.pl m.da m.ve n.ty n.cl n.ss n.sq n.bo n.kd n.er n.f1 n.f2 n.d1 n.d2 n.nm n.ot n.mo n.pl n.da n.ve m.en n.en v v' W ha hb).mono fun r w' h => ⟨?_, h.2.below⟩
  rw [h.1]
  exact congrArg (fun b => Ending.returned (.bool b)) (smL_true m n)
end Go.Proofs.Ytcekfgcajcjooaa
