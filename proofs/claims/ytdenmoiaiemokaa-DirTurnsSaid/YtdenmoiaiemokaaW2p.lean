/- W2. -/
import Derived.Test.YtdenmoiaiemokaaW1p
set_option linter.unusedVariables false
set_option linter.unusedSimpArgs false
namespace Go.Proofs.Ytdenmoiaiemokaa
open Go.RowKit
set_option maxRecDepth 100000 in
theorem fcmp_w0 (nm:ByteArray) (a b c:Int) (s:ByteArray) :∃ qs,wayV ((runFn (⟨Try.prog,[F_strcmp],[],dkHo,Id'.one,60⟩:Sy Td) [] Try.f131 [.agg [.v (.string nm),.v (.int .i64 a),.v (.int .i64 b),.v (.int .i64 c)],.one (.v (.string s))] (roM ([]:Mem Td))).al []) (fun u=>u=.int .i64 (cmpS nm s))=some qs∧∀ q∈qs,q:=
 ⟨[Value.int IntKind.i64 (cmpS nm s)=Value.int IntKind.i64 (cmpS nm s)],by kernel_rfl,(by refine mcons ?_ mnil<;>first|rfl|trivial)⟩
def C_fcmp:CtrV Td:=fun us sub=>match us,sub with
 |[.agg [.v (.string nm),.v (.int .i64 a),.v (.int .i64 b),.v (.int .i64 c)],.one (.v (.string s))],[]=>some ([],.int .i64 (cmpS nm s))
 |_,_=>none
set_option maxRecDepth 100000 in
theorem C_fcmp_ok:CtrVOk Try.prog Id' 131 C_fcmp:=by
 intro us sub ps x h hp w e vs hM ha
 unfold C_fcmp at h
 split at h
 ·rename_i nm a b c s
  simp only [Option.some.injEq,Prod.mk.injEq] at h
  obtain ⟨rfl,rfl⟩:=h
  exact ctrv_way (I:=Id') (fun (W0:World) (G:Nat→Prop)=>SyOk.mk2 Try.mixed dkHo_ok (FnsR.cons (F_strcmp_ok) (FnsR.nil)) EqsOk.nil) rfl Try.func131 (by kernel_rfl) (fun _ _=>LpsOk.nil _) (cs:=[]) (by kernel_rfl) (fcmp_w0 nm a b c s ) w e vs hM ha
 ·cases h
theorem R_fcmp:RowOk Try.prog Id' hardD 131 (ctrV C_fcmp hardD):=ctrV_ok Try.call131 C_fcmp_ok
end Go.Proofs.Ytdenmoiaiemokaa
