/- slot: small questions. -/
import Derived.Test.YtophabekaicdeaaP2

set_option linter.unusedVariables false
set_option linter.unusedSimpArgs false
namespace Go.Proofs.Ytophabekaicdeaa
open Go.RowKit

structure Sl where
  us : Bool
  io : Int
  gn : Int
  pl : Int
  ve : Int
  di : Bool
  da : ByteArray
def bt (b : Bool) : Int := cond b 1 0
theorem bt_in (b : Bool) : 0 ≤ bt b ∧ bt b < 18446744073709551616 := by cases b <;> decide
def u64 (n : Int) : Int := IntKind.u64.wrap n
theorem u64_in (n : Int) : 0 ≤ u64 n ∧ u64 n < 18446744073709551616 := by
  unfold u64
  rw [IntKind.wrap_u64]
  omega
set_option maxRecDepth 100000 in
theorem bit_c (b : Bool) (w : World) : Calls Try.prog 57 #[.bool b] w fun e w' => e = .returned (.int .u64 (bt b)) ∧ Ext w w' :=
  conR (S := (⟨Try.prog, [], [], thHo hz, Iu.one, 40⟩ : Sy Tu)) (I := Iu) (L := []) (args := [.one (.v (.bool b))]) (us := [.bool b]) (e := []) (mem := []) (SyOk.mk2 Try.mixed (thHo_ok hz) (FnsR.nil) (EqsOk.nil)) Try.func57 (by kernel_rfl) (LpsOk.nil _) (args_nil Iu w) (fun n hn => by cases hn) (⟨rfl, trivial⟩) (by kernel_rfl) nil_u (noSh) (by kernel_rfl) [] (by kernel_rfl) (by simp)
def F_bit : Nat × Fn2 Tu := (57, vfn fun us => match us with | [.bool b] => some ([], .int .u64 (bt b)) | _ => none)
theorem F_bit_ok : RowOk Try.prog Iu (hardT hz) F_bit.1 F_bit.2 := by
  refine vfn_ok Try.call57 fun args ps r hs hp w => ?_
  split at hs
  · simp only [Option.some.injEq, Prod.mk.injEq] at hs
    obtain ⟨rfl, rfl⟩ := hs
    exact bit_c _  w
  · cases hs
set_option maxRecDepth 100000 in
theorem wide_c (n : Int) (w : World) : Calls Try.prog 58 #[.int .i64 n] w fun e w' => e = .returned (.int .u64 (u64 n)) ∧ Ext w w' :=
  conR (S := (⟨Try.prog, [], [], thHo hz, Iu.one, 40⟩ : Sy Tu)) (I := Iu) (L := []) (args := [.one (.v (.int .i64 n))]) (us := [.int .i64 n]) (e := []) (mem := []) (SyOk.mk2 Try.mixed (thHo_ok hz) (FnsR.nil) (EqsOk.nil)) Try.func58 (by kernel_rfl) (LpsOk.nil _) (args_nil Iu w) (fun n hn => by cases hn) (⟨rfl, trivial⟩) (by kernel_rfl) nil_u (noSh) (by kernel_rfl) [] (by kernel_rfl) (by simp)
def F_wide : Nat × Fn2 Tu := (58, vfn fun us => match us with | [.int .i64 n] => some ([], .int .u64 (u64 n)) | _ => none)
theorem F_wide_ok : RowOk Try.prog Iu (hardT hz) F_wide.1 F_wide.2 := by
  refine vfn_ok Try.call58 fun args ps r hs hp w => ?_
  split at hs
  · simp only [Option.some.injEq, Prod.mk.injEq] at hs
    obtain ⟨rfl, rfl⟩ := hs
    exact wide_c _  w
  · cases hs
set_option maxRecDepth 100000 in
theorem smine_c (us : Bool) (io gn pl ve : Int) (di : Bool) (da : ByteArray) (w : World) : Calls Try.prog 34 #[.agg #[.bool us, .int .i64 io, .int .i64 gn, .int .i64 pl, .int .u64 ve, .bool di, .string da]] w fun e w' => e = .returned (.agg #[.bool us, .int .i64 io, .int .i64 gn, .int .i64 pl, .int .u64 ve, .bool di, .string da]) ∧ Ext w w' :=
  conR (S := (⟨Try.prog, [], [], thHo hz, Iu.one, 40⟩ : Sy Tu)) (I := Iu) (L := []) (args := [.agg [.v (.bool us), .v (.int .i64 io), .v (.int .i64 gn), .v (.int .i64 pl), .v (.int .u64 ve), .v (.bool di), .v (.string da)]]) (us := [.agg #[.bool us, .int .i64 io, .int .i64 gn, .int .i64 pl, .int .u64 ve, .bool di, .string da]]) (e := []) (mem := []) (SyOk.mk2 Try.mixed (thHo_ok hz) (FnsR.nil) (EqsOk.nil)) Try.func34 (by kernel_rfl) (LpsOk.nil _) (args_nil Iu w) (fun n hn => by cases hn) (⟨⟨[.bool us, .int .i64 io, .int .i64 gn, .int .i64 pl, .int .u64 ve, .bool di, .string da], ⟨rfl, rfl, rfl, rfl, rfl, rfl, rfl, trivial⟩, rfl⟩, trivial⟩) (by kernel_rfl) nil_u (noSh) (by kernel_rfl) [] (by kernel_rfl) (by simp)
def F_smine : Nat × Fn2 Tu := (34, vfn fun us => match us with | [.agg ⟨[.bool us, .int .i64 io, .int .i64 gn, .int .i64 pl, .int .u64 ve, .bool di, .string da]⟩] => some ([], .agg #[.bool us, .int .i64 io, .int .i64 gn, .int .i64 pl, .int .u64 ve, .bool di, .string da]) | _ => none)
theorem F_smine_ok : RowOk Try.prog Iu (hardT hz) F_smine.1 F_smine.2 := by
  refine vfn_ok Try.call34 fun args ps r hs hp w => ?_
  split at hs
  · simp only [Option.some.injEq, Prod.mk.injEq] at hs
    obtain ⟨rfl, rfl⟩ := hs
    exact smine_c _ _ _ _ _ _ _  w
  · cases hs

end Go.Proofs.Ytophabekaicdeaa
