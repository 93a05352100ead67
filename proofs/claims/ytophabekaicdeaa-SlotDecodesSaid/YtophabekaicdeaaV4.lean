/- slot: what bytes are. -/
import Derived.Test.YtophabekaicdeaaV3

set_option linter.unusedVariables false
set_option linter.unusedSimpArgs false
namespace Go.Proofs.Ytophabekaicdeaa
open Go.RowKit

def dG0 (l : List UInt8) : RS := .new l
def dG1 (l : List UInt8) : RS := (dG0 l).get 1
def dG2 (l : List UInt8) : RS := (dG1 l).get 1
def dG3 (l : List UInt8) : RS := (dG2 l).get 6
def dG4 (l : List UInt8) : RS := (dG3 l).get 31
def dG5 (l : List UInt8) : RS := (dG4 l).get 3
def dG6 (l : List UInt8) : RS := (dG5 l).get 40
def dG7 (l : List UInt8) : RS := (dG6 l).aft
def rawD (l : List UInt8) : Sl := ⟨((dG0 l).num 1 : Int) == 1, IntKind.i64.wrap ((dG2 l).num 6 : Int), IntKind.i64.wrap ((dG3 l).num 31 : Int), IntKind.i64.wrap ((dG4 l).num 3 : Int), ((dG5 l).num 40 : Int), ((dG1 l).num 1 : Int) == 1, (dG6 l).txt⟩
def badD (l : List UInt8) : Bool := ((dG7 l).err != 0 || encE (rawD l) != 0) || !decide (l = encL (rawD l))
def decS (l : List UInt8) : Sl := ⟨cond (badD l) false (rawD l).us, cond (badD l) 0 (rawD l).io, cond (badD l) 0 (rawD l).gn, cond (badD l) 0 (rawD l).pl, cond (badD l) 0 (rawD l).ve, cond (badD l) false (rawD l).di, cond (badD l) ⟨#[]⟩ (rawD l).da⟩
def decSE (l : List UInt8) : Int := cond (badD l) 4 0
set_option maxRecDepth 100000 in
theorem sdec_c (l : List UInt8) (h0 : l.length ≤ 100000) (u : Value) (w : World) (hb : Bs w u l) : Calls Try.prog 38 #[u] w fun e w' => e = .returned (.tuple #[.agg #[.bool (decS l).us, .int .i64 (decS l).io, .int .i64 (decS l).gn, .int .i64 (decS l).pl, .int .u64 (decS l).ve, .bool (decS l).di, .string (decS l).da], .int .i64 (decSE l)]) ∧ Ext w w' :=
  conR (S := (⟨Try.prog, [(F_open (hx := hz) : Nat × Fn2 Tu), (F_get (hx := hz) : Nat × Fn2 Tu), (F_rtext (hx := hz) : Nat × Fn2 Tu), F_senc, (F_err : Nat × Fn2 Tu), (F_equal : Nat × Fn2 Tu)], [], thHo hz, Iu.one, 40⟩ : Sy Tu)) (I := Iu) (L := []) (args := [.one (.obj 0)]) (us := [u]) (e := [u]) (mem := [⟨.us (.byt l), false⟩]) (SyOk.mk2 Try.mixed (thHo_ok hz) (FnsR.cons (F_open_ok (J := noI) (hx := hz)) (FnsR.cons (F_get_ok (J := noI) (hx := hz)) (FnsR.cons (F_rtext_ok (J := noI) (hx := hz)) (FnsR.cons F_senc_ok (FnsR.cons (F_err_ok (J := noI) (hx := hz)) (FnsR.cons (F_equal_ok (J := noI) (hx := hz)) (FnsR.nil))))))) (EqsOk.nil)) Try.func38 (by kernel_rfl) (LpsOk.nil _) (args_byt (J := noI) (args_nil _ w) (fun n h => by cases h) hb) (fun n hn => by simp at hn; subst hn; rfl) ⟨rfl, trivial⟩ (by kernel_rfl) nil_u (noSh) (by kernel_rfl) [l.length ≤ (100000 : Nat), (0 : Int) ≤ (↑(((((((RS.new l).get (1 : Int)).get (1 : Int)).get (6 : Int)).get (31 : Int)).get (3 : Int)).num (40 : Int)) : Int) ∧ (↑(((((((RS.new l).get (1 : Int)).get (1 : Int)).get (6 : Int)).get (31 : Int)).get (3 : Int)).num (40 : Int)) : Int) < (18446744073709551616 : Int)] (by kernel_rfl) ((by
    repeat' (first | exact mnil | refine mcons ?_ ?_)
    all_goals first
      | exact h0
      | exact RS.num_in _ _
    ))
def F_sdec : Nat × Fn2 Tu := (38, rowB fun l => some ([l.length ≤ 100000], .tuple #[.agg #[.bool (decS l).us, .int .i64 (decS l).io, .int .i64 (decS l).gn, .int .i64 (decS l).pl, .int .u64 (decS l).ve, .bool (decS l).di, .string (decS l).da], .int .i64 (decSE l)]))
theorem F_sdec_ok : RowOk Try.prog Iu (hardT hz) F_sdec.1 F_sdec.2 := by
  refine rowB_ok Try.call38 fun l ps v hs hp u w hb => ?_
  simp only [Option.some.injEq, Prod.mk.injEq] at hs
  obtain ⟨rfl, rfl⟩ := hs
  exact sdec_c l (hp _ (by simp)) u w hb

end Go.Proofs.Ytophabekaicdeaa
