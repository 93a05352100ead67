/- inode: it lives. -/
import Derived.Test.YtophabekaicdeaaI5

set_option linter.unusedVariables false
set_option linter.unusedSimpArgs false
namespace Go.Proofs.Ytophabekaicdeaa
open Go.RowKit

set_option maxRecDepth 100000 in
theorem ilives_c (w : World) : Calls Try.prog 20 #[] w fun e w' => e = .returned (.bool true) ∧ Ext w w' :=
  conR (S := (⟨Try.prog, [F_ienc, F_idec, F_used], [], thHo hz, Iu.one, 40⟩ : Sy Tu)) (I := Iu) (L := []) (args := []) (us := []) (e := []) (mem := []) (SyOk.mk2 Try.mixed (thHo_ok hz) (FnsR.cons F_ienc_ok (FnsR.cons F_idec_ok (FnsR.cons F_used_ok (FnsR.nil)))) (EqsOk.nil)) Try.func20 (by kernel_rfl) (LpsOk.nil _) (args_nil Iu w) (fun n hn => by cases hn) (trivial) (by kernel_rfl) nil_u (noSh) (by kernel_rfl) [(0 : Int) ≤ 9 ∧ (9 : Int) < 18446744073709551616, (encL ⟨2, 3, 9, 5, 0, 0, 0, 0, 0, 0, 0⟩).length ≤ 100000] (by kernel_rfl) ((mcons (by decide) (mcons (by decide +kernel) mnil)))
def F_ilives : Nat × Fn2 Tu := (20, vfn fun us => match us with | [] => some ([], .bool true) | _ => none)
theorem F_ilives_ok : RowOk Try.prog Iu (hardT hz) F_ilives.1 F_ilives.2 := by
  refine vfn_ok Try.call20 fun args ps r hs hp w => ?_
  split at hs
  · simp only [Option.some.injEq, Prod.mk.injEq] at hs
    obtain ⟨rfl, rfl⟩ := hs
    exact ilives_c   w
  · cases hs

end Go.Proofs.Ytophabekaicdeaa
