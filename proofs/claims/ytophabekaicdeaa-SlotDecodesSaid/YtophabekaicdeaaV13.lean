/- slot: what bytes are, by the document. -/
import Derived.Test.YtophabekaicdeaaV7
import Derived.Test.YtophabekaicdeaaQ3
import Derived.Test.YtophabekaicdeaaO1



set_option linter.unusedVariables false
set_option linter.unusedSimpArgs false
namespace Go.Proofs.Ytophabekaicdeaa
open Go.RowKit

/-- What bytes are, by the document. -/
def badR (l : List UInt8) : Bool := ((dG7 l).err != 0 || rencE (rawD l) != 0) || !decide (l = rencL (rawD l))
def rdecS (l : List UInt8) : Sl := ⟨cond (badR l) false (rawD l).us, cond (badR l) 0 (rawD l).io, cond (badR l) 0 (rawD l).gn, cond (badR l) 0 (rawD l).pl, cond (badR l) 0 (rawD l).ve, cond (badR l) false (rawD l).di, cond (badR l) ⟨#[]⟩ (rawD l).da⟩
def rdecSE (l : List UInt8) : Int := cond (badR l) 4 0
set_option maxRecDepth 100000 in
theorem rsdec_c (l : List UInt8) (h0 : l.length ≤ 100000) (u : Value) (w : World) (hb : Bs w u l) : Calls Try.prog 39 #[u] w fun e w' => e = .returned (.tuple #[.agg #[.bool (rdecS l).us, .int .i64 (rdecS l).io, .int .i64 (rdecS l).gn, .int .i64 (rdecS l).pl, .int .u64 (rdecS l).ve, .bool (rdecS l).di, .string (rdecS l).da], .int .i64 (rdecSE l)]) ∧ Ext w w' :=
  conR (S := (⟨Try.prog, [(F_rofr : Nat × Fn2 Tu), (F_rget2 : Nat × Fn2 Tu), (F_rtext2 : Nat × Fn2 Tu), F_rsenc, (F_rsame : Nat × Fn2 Tu)], [], noApp, Iu.one, 60⟩ : Sy Tu)) (I := Iu) (L := []) (args := [.one (.obj 0)]) (us := [u]) (e := [u]) (mem := [⟨.us (.byt l), false⟩]) (SyOk.mk' Try.mixed (F_rofr_ok (F_rget2_ok (F_rtext2_ok (FnsOk.ofR F_rsenc_ok (FnsOk.ofR (F_rsame_ok (J := noI) (hx := hz)) FnsOk.nil))))) EqsOk.nil) Try.func39 (by kernel_rfl) (LpsOk.nil _) (args_byt (J := noI) (args_nil _ w) (fun n h => by cases h) hb) (fun n hn => by simp at hn; subst hn; rfl) ⟨rfl, trivial⟩ (by kernel_rfl) nil_u (noSh) (by kernel_rfl) [l.length ≤ (100000 : Nat), (0 : Int) = (RS.new l).err, ((RS.new l).get (1 : Int)).err = ((RS.new l).get (1 : Int)).err, (((RS.new l).get (1 : Int)).get (1 : Int)).err = (((RS.new l).get (1 : Int)).get (1 : Int)).err, ((((RS.new l).get (1 : Int)).get (1 : Int)).get (6 : Int)).err = ((((RS.new l).get (1 : Int)).get (1 : Int)).get (6 : Int)).err, (((((RS.new l).get (1 : Int)).get (1 : Int)).get (6 : Int)).get (31 : Int)).err = (((((RS.new l).get (1 : Int)).get (1 : Int)).get (6 : Int)).get (31 : Int)).err, ((((((RS.new l).get (1 : Int)).get (1 : Int)).get (6 : Int)).get (31 : Int)).get (3 : Int)).err = ((((((RS.new l).get (1 : Int)).get (1 : Int)).get (6 : Int)).get (31 : Int)).get (3 : Int)).err, (((((((RS.new l).get (1 : Int)).get (1 : Int)).get (6 : Int)).get (31 : Int)).get (3 : Int)).get (40 : Int)).err = (((((((RS.new l).get (1 : Int)).get (1 : Int)).get (6 : Int)).get (31 : Int)).get (3 : Int)).get (40 : Int)).err, (0 : Int) ≤ (↑(((((((RS.new l).get (1 : Int)).get (1 : Int)).get (6 : Int)).get (31 : Int)).get (3 : Int)).num (40 : Int)) : Int) ∧ (↑(((((((RS.new l).get (1 : Int)).get (1 : Int)).get (6 : Int)).get (31 : Int)).get (3 : Int)).num (40 : Int)) : Int) < (18446744073709551616 : Int)] (by kernel_rfl) ((by
    repeat' (first | exact mnil | refine mcons ?_ ?_)
    all_goals first
      | exact h0
      | exact RS.num_in _ _
      | exact rfl
      | exact (by decide)
    ))
def F_rsdec : Nat × Fn2 Tu := (39, rowB fun l => some ([l.length ≤ 100000], .tuple #[.agg #[.bool (rdecS l).us, .int .i64 (rdecS l).io, .int .i64 (rdecS l).gn, .int .i64 (rdecS l).pl, .int .u64 (rdecS l).ve, .bool (rdecS l).di, .string (rdecS l).da], .int .i64 (rdecSE l)]))
theorem F_rsdec_ok : RowOk Try.prog Iu (hardT hz) F_rsdec.1 F_rsdec.2 := by
  refine rowB_ok Try.call39 fun l ps v hs hp u w hb => ?_
  simp only [Option.some.injEq, Prod.mk.injEq] at hs
  obtain ⟨rfl, rfl⟩ := hs
  exact rsdec_c l (hp _ (by simp)) u w hb

end Go.Proofs.Ytophabekaicdeaa
