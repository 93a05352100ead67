/- Within, as a row. -/
import Derived.Test.YtcekfgcajcjooaaM20

set_option linter.unusedVariables false
set_option linter.unusedSimpArgs false
namespace Go.Proofs.Ytcekfgcajcjooaa
open Go.RowKit

set_option maxRecDepth 100000 in
theorem within1_c (x a b : Int) (w : World) : Calls Try.prog 28 #[.int .i64 x, .int .i64 a, .int .i64 b] w fun e w' => e = .returned (.int .i64 (cond (decide (x < a)) a (cond (decide (x > b)) b x))) ∧ Ext w w' :=
  sym_i (S := ⟨Try.prog, [], [], noApp, labI.one, 40⟩) (I := labI) (L := []) (args := [.one (.v (.int .i64 x)), .one (.v (.int .i64 a)), .one (.v (.int .i64 b))]) (us := [.int .i64 x, .int .i64 a, .int .i64 b]) (e := []) (mem := []) (SyOk.mk' Try.mixed (FnsOk.nil) (EqsOk.nil)) Try.func28 (by kernel_rfl) (LpsOk.nil _) ⟨rfl, rfl, rfl, trivial⟩ (by kernel_rfl) (memOk_nil _ w) [] (by kernel_rfl) (by kernel_rfl) (by simp)
def F_within1 : Nat × Fn2 Lab := (28, fun us mem => match us with | [.one a0, .one a1, .one a2] => (match valP a0 with | some (.int .i64 x) => (match valP a1 with | some (.int .i64 a) => (match valP a2 with | some (.int .i64 b) => some ([], svV (.int .i64 (cond (decide (x < a)) a (cond (decide (x > b)) b x))), none) | _ => none) | _ => none) | _ => none) | _ => none)
theorem F_within1_ok {W0 : World} {G : Nat → Prop} {F : Fns Lab} (ht : FnsOk Try.prog labI W0 G F) : FnsOk Try.prog labI W0 G (F_within1 :: F) :=
  FnsOk.cons Try.call28 (fun args mem ps r mo h hp w e us hM ha => by
    repeat' split at h
    all_goals first
      | (cases h; done)
      | skip
    simp only [Option.some.injEq, Prod.mk.injEq] at h
    obtain ⟨rfl, rfl, rfl⟩ := h
    simp only [allC_cons, allC_nil] at ha
    obtain ⟨u0, t0, rfl, hc0, u1, t1, rfl, hc1, u2, t2, rfl, hc2, rfl⟩ := ha
    obtain rfl := valP_is (by assumption) (show PV.is e _ _ from hc0)
    obtain rfl := valP_is (by assumption) (show PV.is e _ _ from hc1)
    obtain rfl := valP_is (by assumption) (show PV.is e _ _ from hc2)
    refine (within1_c _ _ _ w ).mono fun x w' ⟨h1, h2⟩ => ⟨_, h1, rfl, h2⟩
    all_goals skip) ht

end Go.Proofs.Ytcekfgcajcjooaa
