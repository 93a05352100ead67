/- record: small questions. -/
import Derived.Test.YtophabekaicdeaaF2

set_option linter.unusedVariables false
set_option linter.unusedSimpArgs false
namespace Go.Proofs.Ytophabekaicdeaa
open Go.RowKit

structure Rr where
  bo : Int
  s0 : Int
  s1 : Int
  s2 : Int
  s3 : Int
  s4 : Int
  s5 : Int
  s6 : Int
  s7 : Int
  g0 : Bool
  g1 : Bool
  g2 : Bool
  g3 : Bool
  g4 : Bool
  g5 : Bool
  g6 : Bool
  g7 : Bool
def fl (b : Bool) : Int := cond b 1 0
theorem fl_in (b : Bool) : 0 ≤ fl b ∧ fl b < 18446744073709551616 := by cases b <;> decide
set_option maxRecDepth 100000 in
theorem flag_c (b : Bool) (w : World) : Calls Try.prog 56 #[.bool b] w fun e w' => e = .returned (.int .u64 (fl b)) ∧ Ext w w' :=
  conR (S := (⟨Try.prog, [], [], thHo hz, Iu.one, 40⟩ : Sy Tu)) (I := Iu) (L := []) (args := [.one (.v (.bool b))]) (us := [.bool b]) (e := []) (mem := []) (SyOk.mk2 Try.mixed (thHo_ok hz) (FnsR.nil) (EqsOk.nil)) Try.func56 (by kernel_rfl) (LpsOk.nil _) (args_nil Iu w) (fun n hn => by cases hn) (⟨rfl, trivial⟩) (by kernel_rfl) nil_u (noSh) (by kernel_rfl) [] (by kernel_rfl) (by simp)
def F_flag : Nat × Fn2 Tu := (56, vfn fun us => match us with | [.bool b] => some ([], .int .u64 (fl b)) | _ => none)
theorem F_flag_ok : RowOk Try.prog Iu (hardT hz) F_flag.1 F_flag.2 := by
  refine vfn_ok Try.call56 fun args ps r hs hp w => ?_
  split at hs
  · simp only [Option.some.injEq, Prod.mk.injEq] at hs
    obtain ⟨rfl, rfl⟩ := hs
    exact flag_c _  w
  · cases hs
set_option maxRecDepth 100000 in
theorem rmine_c (bo s0 s1 s2 s3 s4 s5 s6 s7 : Int) (g0 g1 g2 g3 g4 g5 g6 g7 : Bool) (w : World) : Calls Try.prog 25 #[.agg #[.int .u64 bo, .int .u64 s0, .int .u64 s1, .int .u64 s2, .int .u64 s3, .int .u64 s4, .int .u64 s5, .int .u64 s6, .int .u64 s7, .bool g0, .bool g1, .bool g2, .bool g3, .bool g4, .bool g5, .bool g6, .bool g7]] w fun e w' => e = .returned (.agg #[.int .u64 bo, .int .u64 s0, .bool g0, .int .u64 s1, .bool g1, .int .u64 s2, .bool g2, .int .u64 s3, .bool g3, .int .u64 s4, .bool g4, .int .u64 s5, .bool g5, .int .u64 s6, .bool g6, .int .u64 s7, .bool g7]) ∧ Ext w w' :=
  conR (S := (⟨Try.prog, [], [], thHo hz, Iu.one, 40⟩ : Sy Tu)) (I := Iu) (L := []) (args := [.agg [.v (.int .u64 bo), .v (.int .u64 s0), .v (.int .u64 s1), .v (.int .u64 s2), .v (.int .u64 s3), .v (.int .u64 s4), .v (.int .u64 s5), .v (.int .u64 s6), .v (.int .u64 s7), .v (.bool g0), .v (.bool g1), .v (.bool g2), .v (.bool g3), .v (.bool g4), .v (.bool g5), .v (.bool g6), .v (.bool g7)]]) (us := [.agg #[.int .u64 bo, .int .u64 s0, .int .u64 s1, .int .u64 s2, .int .u64 s3, .int .u64 s4, .int .u64 s5, .int .u64 s6, .int .u64 s7, .bool g0, .bool g1, .bool g2, .bool g3, .bool g4, .bool g5, .bool g6, .bool g7]]) (e := []) (mem := []) (SyOk.mk2 Try.mixed (thHo_ok hz) (FnsR.nil) (EqsOk.nil)) Try.func25 (by kernel_rfl) (LpsOk.nil _) (args_nil Iu w) (fun n hn => by cases hn) (⟨⟨[.int .u64 bo, .int .u64 s0, .int .u64 s1, .int .u64 s2, .int .u64 s3, .int .u64 s4, .int .u64 s5, .int .u64 s6, .int .u64 s7, .bool g0, .bool g1, .bool g2, .bool g3, .bool g4, .bool g5, .bool g6, .bool g7], ⟨rfl, rfl, rfl, rfl, rfl, rfl, rfl, rfl, rfl, rfl, rfl, rfl, rfl, rfl, rfl, rfl, rfl, trivial⟩, rfl⟩, trivial⟩) (by kernel_rfl) nil_u (noSh) (by kernel_rfl) [] (by kernel_rfl) (by simp)
def F_rmine : Nat × Fn2 Tu := (25, vfn fun us => match us with | [.agg ⟨[.int .u64 bo, .int .u64 s0, .int .u64 s1, .int .u64 s2, .int .u64 s3, .int .u64 s4, .int .u64 s5, .int .u64 s6, .int .u64 s7, .bool g0, .bool g1, .bool g2, .bool g3, .bool g4, .bool g5, .bool g6, .bool g7]⟩] => some ([], .agg #[.int .u64 bo, .int .u64 s0, .bool g0, .int .u64 s1, .bool g1, .int .u64 s2, .bool g2, .int .u64 s3, .bool g3, .int .u64 s4, .bool g4, .int .u64 s5, .bool g5, .int .u64 s6, .bool g6, .int .u64 s7, .bool g7]) | _ => none)
theorem F_rmine_ok : RowOk Try.prog Iu (hardT hz) F_rmine.1 F_rmine.2 := by
  refine vfn_ok Try.call25 fun args ps r hs hp w => ?_
  split at hs
  · simp only [Option.some.injEq, Prod.mk.injEq] at hs
    obtain ⟨rfl, rfl⟩ := hs
    exact rmine_c _ _ _ _ _ _ _ _ _ _ _ _ _ _ _ _ _  w
  · cases hs

end Go.Proofs.Ytophabekaicdeaa
