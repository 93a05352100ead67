/- What is asked and told. -/
import Derived.Test.YtcekfgcajcjooaaM10

set_option linter.unusedVariables false
set_option linter.unusedSimpArgs false
namespace Go.Proofs.Ytcekfgcajcjooaa
open Go.RowKit

def orC (x y : Bool) : Bool := cond x x y
def askedI (kd : Int) : Int := cond (orC (kd == 12) (kd == 11)) 1 (cond (orC (kd == 3) (kd == 5)) 6 (cond (kd == 4) 22 (cond (kd == 6) 15 (cond (kd == 7) 2 (cond (orC (kd == 8) (kd == 13)) 17 (cond (kd == 9) 33 (cond (kd == 10) 97 0)))))))
def toldI (kd : Int) : Int := cond (kd == 3) 17 (cond (kd == 4) 1 (cond (kd == 7) 256 (cond (orC (kd == 8) (orC (kd == 13) (orC (kd == 10) (kd == 11)))) 128 (cond (kd == 9) 192 0))))
def idleB (kd : Int) : Bool := cond (orC (kd == 4) (orC (kd == 5) (orC (kd == 6) (kd == 11)))) false (decide (kd ≥ 1) && decide (kd ≤ 14))
set_option maxRecDepth 100000 in
theorem asked_c (kd : Int) (w : World) : Calls Try.prog 41 #[.int .i64 kd] w fun e w' => e = .returned (.int .u16 (askedI kd)) ∧ Ext w w' :=
  sym_i (S := ⟨Try.prog, [], [], noApp, labI.one, 40⟩) (I := labI) (L := []) (args := [.one (.v (.int .i64 kd))]) (us := [.int .i64 kd]) (e := []) (mem := []) (SyOk.mk' Try.mixed (FnsOk.nil) (EqsOk.nil)) Try.func41 (by kernel_rfl) (LpsOk.nil _) ⟨rfl, trivial⟩ (by kernel_rfl) (memOk_nil _ w) [] (by kernel_rfl) (by kernel_rfl) (by simp)
def F_asked : Nat × Fn2 Lab := (41, fun us mem => match us with | [.one a0] => (match valP a0 with | some (.int .i64 kd) => some ([], svV (.int .u16 (askedI kd)), none) | _ => none) | _ => none)
theorem F_asked_ok {W0 : World} {G : Nat → Prop} {F : Fns Lab} (ht : FnsOk Try.prog labI W0 G F) : FnsOk Try.prog labI W0 G (F_asked :: F) :=
  FnsOk.cons Try.call41 (fun args mem ps r mo h hp w e us hM ha => by
    repeat' split at h
    all_goals first
      | (cases h; done)
      | skip
    simp only [Option.some.injEq, Prod.mk.injEq] at h
    obtain ⟨rfl, rfl, rfl⟩ := h
    simp only [allC_cons, allC_nil] at ha
    obtain ⟨u0, t0, rfl, hc0, rfl⟩ := ha
    obtain rfl := valP_is (by assumption) (show PV.is e _ _ from hc0)
    refine (asked_c _ w ).mono fun x w' ⟨h1, h2⟩ => ⟨_, h1, rfl, h2⟩
    all_goals skip) ht
set_option maxRecDepth 100000 in
theorem told_c (kd : Int) (w : World) : Calls Try.prog 42 #[.int .i64 kd] w fun e w' => e = .returned (.int .u16 (toldI kd)) ∧ Ext w w' :=
  sym_i (S := ⟨Try.prog, [], [], noApp, labI.one, 40⟩) (I := labI) (L := []) (args := [.one (.v (.int .i64 kd))]) (us := [.int .i64 kd]) (e := []) (mem := []) (SyOk.mk' Try.mixed (FnsOk.nil) (EqsOk.nil)) Try.func42 (by kernel_rfl) (LpsOk.nil _) ⟨rfl, trivial⟩ (by kernel_rfl) (memOk_nil _ w) [] (by kernel_rfl) (by kernel_rfl) (by simp)
def F_told : Nat × Fn2 Lab := (42, fun us mem => match us with | [.one a0] => (match valP a0 with | some (.int .i64 kd) => some ([], svV (.int .u16 (toldI kd)), none) | _ => none) | _ => none)
theorem F_told_ok {W0 : World} {G : Nat → Prop} {F : Fns Lab} (ht : FnsOk Try.prog labI W0 G F) : FnsOk Try.prog labI W0 G (F_told :: F) :=
  FnsOk.cons Try.call42 (fun args mem ps r mo h hp w e us hM ha => by
    repeat' split at h
    all_goals first
      | (cases h; done)
      | skip
    simp only [Option.some.injEq, Prod.mk.injEq] at h
    obtain ⟨rfl, rfl, rfl⟩ := h
    simp only [allC_cons, allC_nil] at ha
    obtain ⟨u0, t0, rfl, hc0, rfl⟩ := ha
    obtain rfl := valP_is (by assumption) (show PV.is e _ _ from hc0)
    refine (told_c _ w ).mono fun x w' ⟨h1, h2⟩ => ⟨_, h1, rfl, h2⟩
    all_goals skip) ht
set_option maxRecDepth 100000 in
theorem idle_c (kd : Int) (w : World) : Calls Try.prog 26 #[.int .i64 kd] w fun e w' => e = .returned (.bool (idleB kd)) ∧ Ext w w' :=
  sym_b (S := ⟨Try.prog, [], [], noApp, labI.one, 40⟩) (I := labI) (L := []) (args := [.one (.v (.int .i64 kd))]) (us := [.int .i64 kd]) (e := []) (mem := []) (SyOk.mk' Try.mixed (FnsOk.nil) (EqsOk.nil)) Try.func26 (by kernel_rfl) (LpsOk.nil _) ⟨rfl, trivial⟩ (by kernel_rfl) (memOk_nil _ w) [] (by kernel_rfl) (by kernel_rfl) (by simp)
def F_idle : Nat × Fn2 Lab := (26, fun us mem => match us with | [.one a0] => (match valP a0 with | some (.int .i64 kd) => some ([], svV (.bool (idleB kd)), none) | _ => none) | _ => none)
theorem F_idle_ok {W0 : World} {G : Nat → Prop} {F : Fns Lab} (ht : FnsOk Try.prog labI W0 G F) : FnsOk Try.prog labI W0 G (F_idle :: F) :=
  FnsOk.cons Try.call26 (fun args mem ps r mo h hp w e us hM ha => by
    repeat' split at h
    all_goals first
      | (cases h; done)
      | skip
    simp only [Option.some.injEq, Prod.mk.injEq] at h
    obtain ⟨rfl, rfl, rfl⟩ := h
    simp only [allC_cons, allC_nil] at ha
    obtain ⟨u0, t0, rfl, hc0, rfl⟩ := ha
    obtain rfl := valP_is (by assumption) (show PV.is e _ _ from hc0)
    refine (idle_c _ w ).mono fun x w' ⟨h1, h2⟩ => ⟨_, h1, rfl, h2⟩
    all_goals skip) ht
set_option maxRecDepth 100000 in
theorem answer_c (ty cl ss sq bo kd er f1 f2 d1 d2 : Int) (nm ot : ByteArray) (mo pl : Int) (da : ByteArray) (ve : Int) (en : List Ent) (v : Value) (w : World) (hv : Es w v en) : Calls Try.prog 27 #[.agg #[.int .i64 ty, .int .i64 cl, .int .u64 ss, .int .u64 sq, .int .u64 bo, .int .i64 kd, .int .i64 er, .int .i64 f1, .int .i64 f2, .int .i64 d1, .int .i64 d2, .string nm, .string ot, .int .i64 mo, .int .i64 pl, .string da, .int .u64 ve, v]] w fun e w' => e = .returned (.agg #[.int .i64 2, .int .i64 cl, .int .u64 ss, .int .u64 sq, .int .u64 bo, .int .i64 kd, .int .i64 0, .int .i64 0, .int .i64 0, .int .i64 0, .int .i64 0, .string emp, .string emp, .int .i64 0, .int .i64 0, .string emp, .int .u64 0, .slice none 0 0]) ∧ Ext w w' :=
  sym_v (S := ⟨Try.prog, [], [], noApp, labI.one, 40⟩) (I := labI) (L := []) (args := [.agg [.v (.int .i64 ty), .v (.int .i64 cl), .v (.int .u64 ss), .v (.int .u64 sq), .v (.int .u64 bo), .v (.int .i64 kd), .v (.int .i64 er), .v (.int .i64 f1), .v (.int .i64 f2), .v (.int .i64 d1), .v (.int .i64 d2), .v (.string nm), .v (.string ot), .v (.int .i64 mo), .v (.int .i64 pl), .v (.string da), .v (.int .u64 ve), .obj 0]]) (us := [.agg #[.int .i64 ty, .int .i64 cl, .int .u64 ss, .int .u64 sq, .int .u64 bo, .int .i64 kd, .int .i64 er, .int .i64 f1, .int .i64 f2, .int .i64 d1, .int .i64 d2, .string nm, .string ot, .int .i64 mo, .int .i64 pl, .string da, .int .u64 ve, v]]) (e := [v]) (mem := [enS en]) (SyOk.mk' Try.mixed (FnsOk.nil) (EqsOk.nil)) Try.func27 (by kernel_rfl) (LpsOk.nil _) ⟨⟨[.int .i64 ty, .int .i64 cl, .int .u64 ss, .int .u64 sq, .int .u64 bo, .int .i64 kd, .int .i64 er, .int .i64 f1, .int .i64 f2, .int .i64 d1, .int .i64 d2, .string nm, .string ot, .int .i64 mo, .int .i64 pl, .string da, .int .u64 ve, v], ⟨rfl, rfl, rfl, rfl, rfl, rfl, rfl, rfl, rfl, rfl, rfl, rfl, rfl, rfl, rfl, rfl, rfl, rfl, trivial⟩, rfl⟩, trivial⟩ (by kernel_rfl) (memOk_es1 hv) [] (by kernel_rfl) (by kernel_rfl) (by simp)

end Go.Proofs.Ytcekfgcajcjooaa
