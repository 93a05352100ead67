/- What is asked and told. -/
import Derived.Test.YtklemhmdbfhcdaaM10

set_option linter.unusedVariables false
set_option linter.unusedSimpArgs false
namespace Go.Proofs.Ytklemhmdbfhcdaa
open Go.RowKit

def orC (x y : Bool) : Bool := cond x x y
def askedI (kd : Int) : Int := cond (orC (kd == 12) (kd == 11)) 1 (cond (orC (kd == 3) (kd == 5)) 6 (cond (kd == 4) 22 (cond (kd == 6) 15 (cond (kd == 7) 2 (cond (orC (kd == 8) (kd == 13)) 17 (cond (kd == 9) 33 (cond (kd == 10) 97 0)))))))
def toldI (kd : Int) : Int := cond (kd == 3) 17 (cond (kd == 4) 1 (cond (kd == 7) 256 (cond (orC (kd == 8) (orC (kd == 13) (orC (kd == 10) (kd == 11)))) 128 (cond (kd == 9) 192 0))))
def idleB (kd : Int) : Bool := cond (orC (kd == 4) (orC (kd == 5) (orC (kd == 6) (kd == 11)))) false (decide (kd ≥ 1) && decide (kd ≤ 14))
set_option maxRecDepth 100000 in
theorem asked_c (kd : Int) (w : World) : Calls Try.prog 28 #[.int .i64 kd] w fun e w' => e = .returned (.int .u16 (askedI kd)) ∧ Ext w w' :=
  sym_i (S := ⟨Try.prog, [], [], noApp, labI.one, 40⟩) (I := labI) (L := []) (args := [.one (.v (.int .i64 kd))]) (us := [.int .i64 kd]) (e := []) (mem := []) (SyOk.mk' Try.mixed (FnsOk.nil) (EqsOk.nil)) Try.func28 (by kernel_rfl) (LpsOk.nil _) ⟨rfl, trivial⟩ (by kernel_rfl) (memOk_nil _ w) [] (by kernel_rfl) (by kernel_rfl) (by simp)
def F_asked : Nat × Fn2 Lab := (28, fun us mem => match us with | [.one a0] => (match valP a0 with | some (.int .i64 kd) => some ([], svV (.int .u16 (askedI kd)), none) | _ => none) | _ => none)
theorem F_asked_ok {W0 : World} {G : Nat → Prop} {F : Fns Lab} (ht : FnsOk Try.prog labI W0 G F) : FnsOk Try.prog labI W0 G (F_asked :: F) :=
  FnsOk.cons Try.call28 (fun args mem ps r mo h hp w e us hM ha => by
    repeat' split at h
    all_goals first
      | (cases h; done)
      | skip
    simp only [Option.some.injEq, Prod.mk.injEq] at h
    obtain ⟨rfl, rfl, rfl⟩ := h
    simp only [allC_cons, allC_nil] at ha
    obtain ⟨u0, t0, rfl, hc0, rfl⟩ := ha
    obtain rfl := valP_is (by assumption) (show PV.is e _ _ from hc0)
    refine (asked_c _ w ).mono fun x w' ⟨h1, h2⟩ => ⟨_, h1, rfl, h2⟩
    all_goals skip) ht
set_option maxRecDepth 100000 in
theorem told_c (kd : Int) (w : World) : Calls Try.prog 29 #[.int .i64 kd] w fun e w' => e = .returned (.int .u16 (toldI kd)) ∧ Ext w w' :=
  sym_i (S := ⟨Try.prog, [], [], noApp, labI.one, 40⟩) (I := labI) (L := []) (args := [.one (.v (.int .i64 kd))]) (us := [.int .i64 kd]) (e := []) (mem := []) (SyOk.mk' Try.mixed (FnsOk.nil) (EqsOk.nil)) Try.func29 (by kernel_rfl) (LpsOk.nil _) ⟨rfl, trivial⟩ (by kernel_rfl) (memOk_nil _ w) [] (by kernel_rfl) (by kernel_rfl) (by simp)
def F_told : Nat × Fn2 Lab := (29, fun us mem => match us with | [.one a0] => (match valP a0 with | some (.int .i64 kd) => some ([], svV (.int .u16 (toldI kd)), none) | _ => none) | _ => none)
theorem F_told_ok {W0 : World} {G : Nat → Prop} {F : Fns Lab} (ht : FnsOk Try.prog labI W0 G F) : FnsOk Try.prog labI W0 G (F_told :: F) :=
  FnsOk.cons Try.call29 (fun args mem ps r mo h hp w e us hM ha => by
    repeat' split at h
    all_goals first
      | (cases h; done)
      | skip
    simp only [Option.some.injEq, Prod.mk.injEq] at h
    obtain ⟨rfl, rfl, rfl⟩ := h
    simp only [allC_cons, allC_nil] at ha
    obtain ⟨u0, t0, rfl, hc0, rfl⟩ := ha
    obtain rfl := valP_is (by assumption) (show PV.is e _ _ from hc0)
    refine (told_c _ w ).mono fun x w' ⟨h1, h2⟩ => ⟨_, h1, rfl, h2⟩
    all_goals skip) ht
end Go.Proofs.Ytklemhmdbfhcdaa
