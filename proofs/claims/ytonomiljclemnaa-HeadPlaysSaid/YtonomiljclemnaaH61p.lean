/- H61. -/
import Derived.Test.YtonomiljclemnaaH62p
set_option linter.unusedVariables false
set_option linter.unusedSimpArgs false
namespace Go.Proofs.Ytonomiljclemnaa
open Go.RowKit
def hpI (i gn:Int):Int:=IntKind.i64.wrap (i+IntKind.i64.wrap (IntKind.u64.wrap ((BitVec.ofInt IntKind.u64.bits gn &&& BitVec.ofInt IntKind.u64.bits 1).toNat:Int)))
set_option maxRecDepth 100000 in
theorem hplace_w0 (i gn:Int) :∃ qs,wayV ((runFn (⟨Try.prog,[],[],dkHo,Id'.one,60⟩:Sy Td) [] Try.f51 [.one (.v (.int .i64 i)),.one (.v (.int .u64 gn))] (roM ([]:Mem Td))).al []) (fun u=>u=.int .i64 (hpI i gn))=some qs∧∀ q∈qs,q:=
 ⟨[Value.int IntKind.i64 (IntKind.i64.wrap (i+IntKind.i64.wrap (IntKind.u64.wrap (↑(BitVec.ofInt IntKind.u64.bits gn &&& BitVec.ofInt IntKind.u64.bits (1:Int)).toNat:Int))))=Value.int IntKind.i64 (hpI i gn)],by kernel_rfl,(by refine mcons ?_ mnil<;>first|rfl|trivial)⟩
def C_hplace:CtrV Td:=fun us sub=>match us,sub with
 |[.one (.v (.int .i64 i)),.one (.v (.int .u64 gn))],[]=>some ([],.int .i64 (hpI i gn))
 |_,_=>none
set_option maxRecDepth 100000 in
theorem C_hplace_ok:CtrVOk Try.prog Id' 51 C_hplace:=by
 intro us sub ps x h hp w e vs hM ha
 unfold C_hplace at h
 split at h
 ·rename_i i gn
  simp only [Option.some.injEq,Prod.mk.injEq] at h
  obtain ⟨rfl,rfl⟩:=h
  exact ctrv_way (I:=Id') (fun (W0:World) (G:Nat→Prop)=>SyOk.mk2 Try.mixed dkHo_ok (FnsR.nil) EqsOk.nil) rfl Try.func51 (by kernel_rfl) (fun _ _=>LpsOk.nil _) (cs:=[]) (by kernel_rfl) (hplace_w0 i gn ) w e vs hM ha
 ·cases h
theorem R_hplace:RowOk Try.prog Id' hardD 51 (ctrV C_hplace hardD):=ctrV_ok Try.call51 C_hplace_ok
end Go.Proofs.Ytonomiljclemnaa
