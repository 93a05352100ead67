/- slot: it lives. -/
import Derived.Test.YtophabekaicdeaaV4

set_option linter.unusedVariables false
set_option linter.unusedSimpArgs false
namespace Go.Proofs.Ytophabekaicdeaa
open Go.RowKit

set_option maxRecDepth 100000 in
theorem slives_c (w : World) : Calls Try.prog 37 #[] w fun e w' => e = .returned (.bool true) ∧ Ext w w' :=
  conR (S := (⟨Try.prog, [F_senc, F_sdec, F_sfree], [E_of Try.prog 76], thHo hz, Iu.one, 40⟩ : Sy Tu)) (I := Iu) (L := []) (args := []) (us := []) (e := []) (mem := []) (SyOk.mk2 Try.mixed (thHo_ok hz) (FnsR.cons F_senc_ok (FnsR.cons F_sdec_ok (FnsR.cons F_sfree_ok (FnsR.nil)))) (E_of_ok (by kernel_rfl) (EqsOk.nil))) Try.func37 (by kernel_rfl) (LpsOk.nil _) (args_nil Iu w) (fun n hn => by cases hn) (trivial) (by kernel_rfl) nil_u (noSh) (by kernel_rfl) [(0 : Int) ≤ (7 : Int) ∧ (7 : Int) < (18446744073709551616 : Int), (encL (Sl.mk true (2 : Int) (1 : Int) (3 : Int) (7 : Int) true (ByteArray.mk #[(97 : UInt8), (98 : UInt8)]))).length ≤ (100000 : Nat)] (by kernel_rfl) ((by
    repeat' (first | exact mnil | refine mcons ?_ ?_)
    all_goals first
      | decide
      | decide +kernel
    ))
def F_slives : Nat × Fn2 Tu := (37, vfn fun us => match us with | [] => some ([], .bool true) | _ => none)
theorem F_slives_ok : RowOk Try.prog Iu (hardT hz) F_slives.1 F_slives.2 := by
  refine vfn_ok Try.call37 fun args ps r hs hp w => ?_
  split at hs
  · simp only [Option.some.injEq, Prod.mk.injEq] at hs
    obtain ⟨rfl, rfl⟩ := hs
    exact slives_c   w
  · cases hs

end Go.Proofs.Ytophabekaicdeaa
