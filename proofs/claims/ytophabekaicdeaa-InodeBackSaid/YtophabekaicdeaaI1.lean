/- inode: small questions. -/
import Derived.Test.YtophabekaicdeaaF2

set_option linter.unusedVariables false
set_option linter.unusedSimpArgs false
namespace Go.Proofs.Ytophabekaicdeaa
open Go.RowKit

/-- An inode. -/
structure Ino where
  kd : Int
  gn : Int
  ve : Int
  b0 : Int
  b1 : Int
  b2 : Int
  b3 : Int
  b4 : Int
  b5 : Int
  b6 : Int
  b7 : Int
def zeroB (x : Ino) : Bool := x.kd == 0 && (x.gn == x.gn && (x.ve == 0 && (x.b0 == 0 && (x.b1 == 0 && (x.b2 == 0 && (x.b3 == 0 && (x.b4 == 0 && (x.b5 == 0 && (x.b6 == 0 && (x.b7 == 0 && true))))))) && true)))
def rightB (x : Ino) : Bool := cond (cond (x.kd == 1) (x.kd == 1) (x.kd == 2)) true (cond (x.kd == 0) (zeroB x) false)
def u64 (n : Int) : Int := IntKind.u64.wrap n
theorem u64_in (n : Int) : 0 ≤ u64 n ∧ u64 n < 18446744073709551616 := by
  unfold u64
  rw [IntKind.wrap_u64]
  omega
set_option maxRecDepth 100000 in
theorem right_c (kd gn ve b0 b1 b2 b3 b4 b5 b6 b7 : Int) (w : World) : Calls Try.prog 42 #[.agg #[.int .i64 kd, .int .i64 gn, .int .u64 ve, .int .i64 b0, .int .i64 b1, .int .i64 b2, .int .i64 b3, .int .i64 b4, .int .i64 b5, .int .i64 b6, .int .i64 b7]] w fun e w' => e = .returned (.bool (rightB (⟨kd, gn, ve, b0, b1, b2, b3, b4, b5, b6, b7⟩ : Ino))) ∧ Ext w w' :=
  conR (S := (⟨Try.prog, [], [E_of Try.prog 30], thHo hz, Iu.one, 40⟩ : Sy Tu)) (I := Iu) (L := []) (args := [.agg [.v (.int .i64 kd), .v (.int .i64 gn), .v (.int .u64 ve), .v (.int .i64 b0), .v (.int .i64 b1), .v (.int .i64 b2), .v (.int .i64 b3), .v (.int .i64 b4), .v (.int .i64 b5), .v (.int .i64 b6), .v (.int .i64 b7)]]) (us := [.agg #[.int .i64 kd, .int .i64 gn, .int .u64 ve, .int .i64 b0, .int .i64 b1, .int .i64 b2, .int .i64 b3, .int .i64 b4, .int .i64 b5, .int .i64 b6, .int .i64 b7]]) (e := []) (mem := []) (SyOk.mk2 Try.mixed (thHo_ok hz) (FnsR.nil) (E_of_ok (by kernel_rfl) (EqsOk.nil))) Try.func42 (by kernel_rfl) (LpsOk.nil _) (args_nil Iu w) (fun n hn => by cases hn) (⟨⟨[.int .i64 kd, .int .i64 gn, .int .u64 ve, .int .i64 b0, .int .i64 b1, .int .i64 b2, .int .i64 b3, .int .i64 b4, .int .i64 b5, .int .i64 b6, .int .i64 b7], ⟨rfl, rfl, rfl, rfl, rfl, rfl, rfl, rfl, rfl, rfl, rfl, trivial⟩, rfl⟩, trivial⟩) (by kernel_rfl) nil_u (noSh) (by kernel_rfl) [] (by kernel_rfl) (by simp)
def F_right : Nat × Fn2 Tu := (42, vfn fun us => match us with | [.agg ⟨[.int .i64 kd, .int .i64 gn, .int .u64 ve, .int .i64 b0, .int .i64 b1, .int .i64 b2, .int .i64 b3, .int .i64 b4, .int .i64 b5, .int .i64 b6, .int .i64 b7]⟩] => some ([], .bool (rightB (⟨kd, gn, ve, b0, b1, b2, b3, b4, b5, b6, b7⟩ : Ino))) | _ => none)
theorem F_right_ok : RowOk Try.prog Iu (hardT hz) F_right.1 F_right.2 := by
  refine vfn_ok Try.call42 fun args ps r hs hp w => ?_
  split at hs
  · simp only [Option.some.injEq, Prod.mk.injEq] at hs
    obtain ⟨rfl, rfl⟩ := hs
    exact right_c _ _ _ _ _ _ _ _ _ _ _  w
  · cases hs
set_option maxRecDepth 100000 in
theorem unsigned_c (n : Int) (w : World) : Calls Try.prog 45 #[.int .i64 n] w fun e w' => e = .returned (.int .u64 (u64 n)) ∧ Ext w w' :=
  conR (S := (⟨Try.prog, [], [], thHo hz, Iu.one, 40⟩ : Sy Tu)) (I := Iu) (L := []) (args := [.one (.v (.int .i64 n))]) (us := [.int .i64 n]) (e := []) (mem := []) (SyOk.mk2 Try.mixed (thHo_ok hz) (FnsR.nil) (EqsOk.nil)) Try.func45 (by kernel_rfl) (LpsOk.nil _) (args_nil Iu w) (fun n hn => by cases hn) (⟨rfl, trivial⟩) (by kernel_rfl) nil_u (noSh) (by kernel_rfl) [] (by kernel_rfl) (by simp)
def F_unsigned : Nat × Fn2 Tu := (45, vfn fun us => match us with | [.int .i64 n] => some ([], .int .u64 (u64 n)) | _ => none)
theorem F_unsigned_ok : RowOk Try.prog Iu (hardT hz) F_unsigned.1 F_unsigned.2 := by
  refine vfn_ok Try.call45 fun args ps r hs hp w => ?_
  split at hs
  · simp only [Option.some.injEq, Prod.mk.injEq] at hs
    obtain ⟨rfl, rfl⟩ := hs
    exact unsigned_c _  w
  · cases hs
set_option maxRecDepth 100000 in
theorem imine_c (kd gn ve b0 b1 b2 b3 b4 b5 b6 b7 : Int) (w : World) : Calls Try.prog 14 #[.agg #[.int .i64 kd, .int .i64 gn, .int .u64 ve, .int .i64 b0, .int .i64 b1, .int .i64 b2, .int .i64 b3, .int .i64 b4, .int .i64 b5, .int .i64 b6, .int .i64 b7]] w fun e w' => e = .returned (.agg #[.int .i64 kd, .int .i64 gn, .int .u64 ve, .int .i64 b0, .int .i64 b1, .int .i64 b2, .int .i64 b3, .int .i64 b4, .int .i64 b5, .int .i64 b6, .int .i64 b7]) ∧ Ext w w' :=
  conR (S := (⟨Try.prog, [], [], thHo hz, Iu.one, 40⟩ : Sy Tu)) (I := Iu) (L := []) (args := [.agg [.v (.int .i64 kd), .v (.int .i64 gn), .v (.int .u64 ve), .v (.int .i64 b0), .v (.int .i64 b1), .v (.int .i64 b2), .v (.int .i64 b3), .v (.int .i64 b4), .v (.int .i64 b5), .v (.int .i64 b6), .v (.int .i64 b7)]]) (us := [.agg #[.int .i64 kd, .int .i64 gn, .int .u64 ve, .int .i64 b0, .int .i64 b1, .int .i64 b2, .int .i64 b3, .int .i64 b4, .int .i64 b5, .int .i64 b6, .int .i64 b7]]) (e := []) (mem := []) (SyOk.mk2 Try.mixed (thHo_ok hz) (FnsR.nil) (EqsOk.nil)) Try.func14 (by kernel_rfl) (LpsOk.nil _) (args_nil Iu w) (fun n hn => by cases hn) (⟨⟨[.int .i64 kd, .int .i64 gn, .int .u64 ve, .int .i64 b0, .int .i64 b1, .int .i64 b2, .int .i64 b3, .int .i64 b4, .int .i64 b5, .int .i64 b6, .int .i64 b7], ⟨rfl, rfl, rfl, rfl, rfl, rfl, rfl, rfl, rfl, rfl, rfl, trivial⟩, rfl⟩, trivial⟩) (by kernel_rfl) nil_u (noSh) (by kernel_rfl) [] (by kernel_rfl) (by simp)
def F_imine : Nat × Fn2 Tu := (14, vfn fun us => match us with | [.agg ⟨[.int .i64 kd, .int .i64 gn, .int .u64 ve, .int .i64 b0, .int .i64 b1, .int .i64 b2, .int .i64 b3, .int .i64 b4, .int .i64 b5, .int .i64 b6, .int .i64 b7]⟩] => some ([], .agg #[.int .i64 kd, .int .i64 gn, .int .u64 ve, .int .i64 b0, .int .i64 b1, .int .i64 b2, .int .i64 b3, .int .i64 b4, .int .i64 b5, .int .i64 b6, .int .i64 b7]) | _ => none)
theorem F_imine_ok : RowOk Try.prog Iu (hardT hz) F_imine.1 F_imine.2 := by
  refine vfn_ok Try.call14 fun args ps r hs hp w => ?_
  split at hs
  · simp only [Option.some.injEq, Prod.mk.injEq] at hs
    obtain ⟨rfl, rfl⟩ := hs
    exact imine_c _ _ _ _ _ _ _ _ _ _ _  w
  · cases hs

end Go.Proofs.Ytophabekaicdeaa
