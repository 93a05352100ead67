/- MsgAnswers, walked. -/
import Derived.Test.YtcekfgcajcjooaaM21

set_option linter.unusedVariables false
set_option linter.unusedSimpArgs false
namespace Go.Proofs.Ytcekfgcajcjooaa
open Go.RowKit

def ansM (m : Msg) : Msg := ⟨2, m.cl, m.ss, m.sq, m.bo, m.kd, 0, 0, 0, 0, 0, ⟨#[]⟩, ⟨#[]⟩, 0, 0, ⟨#[]⟩, 0, []⟩
def wthI (x a b : Int) : Int := cond (decide (x < a)) a (cond (decide (x > b)) b x)
def repM (m : Msg) (e b : Int) : Msg := ⟨2, m.cl, m.ss, m.sq, b, m.kd, wthI e 1 25, 0, 0, 0, 0, ⟨#[]⟩, ⟨#[]⟩, 0, 0, ⟨#[]⟩, 0, []⟩
def anA (m : Msg) (e b : Int) : Bool := (m.ty != 1 || checkI (shortMsg m) != 0 || checkI (repM m e b) == 0) && true
/-- The law MsgAnswers, in plain words. -/
def anL (m : Msg) (e : Int) : Bool := cond (!sameR (ansM m) (ansM m)) false (cond (m.bo == 0) (anA m e 1) (anA m e m.bo))
set_option maxRecDepth 100000 in
theorem lawAnswers_c (ty cl ss sq bo kd er f1 f2 d1 d2 : Int) (nm ot : ByteArray) (mo pl : Int) (da : ByteArray) (ve : Int) (en : List Ent) (v : Value) (x : Int) (w : World) (hv : Es w v en) : Calls Try.prog 9 #[.agg #[.int .i64 ty, .int .i64 cl, .int .u64 ss, .int .u64 sq, .int .u64 bo, .int .i64 kd, .int .i64 er, .int .i64 f1, .int .i64 f2, .int .i64 d1, .int .i64 d2, .string nm, .string ot, .int .i64 mo, .int .i64 pl, .string da, .int .u64 ve, v], .int .i64 x] w fun e w' => e = .returned (.bool (anL (⟨ty, cl, ss, sq, bo, kd, er, f1, f2, d1, d2, nm, ot, mo, pl, da, ve, en⟩ : Msg) x)) ∧ Ext w w' :=
  sym_b (S := ⟨Try.prog, [F_short, F_mcheckB, F_rsmN, F_lives, F_within1, (27, inl ⟨Try.prog, [], [], noApp, labI.one, 40⟩ [] Try.f27 false)], [], noApp, labI.one, 40⟩) (I := labI) (L := []) (args := [.agg [.v (.int .i64 ty), .v (.int .i64 cl), .v (.int .u64 ss), .v (.int .u64 sq), .v (.int .u64 bo), .v (.int .i64 kd), .v (.int .i64 er), .v (.int .i64 f1), .v (.int .i64 f2), .v (.int .i64 d1), .v (.int .i64 d2), .v (.string nm), .v (.string ot), .v (.int .i64 mo), .v (.int .i64 pl), .v (.string da), .v (.int .u64 ve), .obj 0], .one (.v (.int .i64 x))]) (us := [.agg #[.int .i64 ty, .int .i64 cl, .int .u64 ss, .int .u64 sq, .int .u64 bo, .int .i64 kd, .int .i64 er, .int .i64 f1, .int .i64 f2, .int .i64 d1, .int .i64 d2, .string nm, .string ot, .int .i64 mo, .int .i64 pl, .string da, .int .u64 ve, v], .int .i64 x]) (e := [v]) (mem := [enS en]) (SyOk.mk' Try.mixed (F_short_ok (F_mcheckB_ok (F_rsmN_ok (F_lives_ok (F_within1_ok (FnsOk.consI Try.call27 rfl Try.func27 (by kernel_rfl) (fun w => SyOk.mk' Try.mixed (FnsOk.nil) (EqsOk.nil)) (fun w => LpsOk.nil _) (FnsOk.nil))))))) (EqsOk.nil)) Try.func9 (by kernel_rfl) (LpsOk.nil _) ⟨⟨[.int .i64 ty, .int .i64 cl, .int .u64 ss, .int .u64 sq, .int .u64 bo, .int .i64 kd, .int .i64 er, .int .i64 f1, .int .i64 f2, .int .i64 d1, .int .i64 d2, .string nm, .string ot, .int .i64 mo, .int .i64 pl, .string da, .int .u64 ve, v], ⟨rfl, rfl, rfl, rfl, rfl, rfl, rfl, rfl, rfl, rfl, rfl, rfl, rfl, rfl, rfl, rfl, rfl, rfl, trivial⟩, rfl⟩, rfl, trivial⟩ (by kernel_rfl) (memOk_es1 hv) [entKS en = entKS en, (!sameR (ansM (⟨ty, cl, ss, sq, bo, kd, er, f1, f2, d1, d2, nm, ot, mo, pl, da, ve, en⟩ : Msg)) (ansM (⟨ty, cl, ss, sq, bo, kd, er, f1, f2, d1, d2, nm, ot, mo, pl, da, ve, en⟩ : Msg))) = false → (bo == 0) = true → (!ty != 1 && true) = true → entKS (shortL en) = entKS (shortL en), (!sameR (ansM (⟨ty, cl, ss, sq, bo, kd, er, f1, f2, d1, d2, nm, ot, mo, pl, da, ve, en⟩ : Msg)) (ansM (⟨ty, cl, ss, sq, bo, kd, er, f1, f2, d1, d2, nm, ot, mo, pl, da, ve, en⟩ : Msg))) = false → (bo == 0) = false → (!ty != 1 && true) = true → entKS (shortL en) = entKS (shortL en)] (by kernel_rfl) (by kernel_rfl) ((mcons rfl (mcons (fun _ _ _ => rfl) (mcons (fun _ _ _ => rfl) mnil))))

end Go.Proofs.Ytcekfgcajcjooaa
