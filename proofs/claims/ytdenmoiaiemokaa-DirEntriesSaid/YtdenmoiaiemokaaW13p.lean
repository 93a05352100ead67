/- W13. -/
import Derived.Test.YtdenmoiaiemokaaW12p
set_option linter.unusedVariables false
set_option linter.unusedSimpArgs false
namespace Go.Proofs.Ytdenmoiaiemokaa
open Go.RowKit
set_option maxRecDepth 100000 in
theorem dbl1_w0 (nm:ByteArray) (a b c:Int) :∃ qs,wayO Id' (([]:Mem Td):Mem Td).length [⟨.dead,true⟩,⟨.dead,true⟩] (svV (.bool (!isE nm a b c))) ((runFn (⟨Try.prog,[(118,ctrF Id' C_dright hardD)],[],dkHo,Id'.one,60⟩:Sy Td) [] Try.f117 [.agg [.v (.string nm),.v (.int .i64 a),.v (.int .i64 b),.v (.int .i64 c)]] ([]:Mem Td)).al [])=some qs∧∀ q∈qs,q:=
 ⟨[(Value.bool !isE nm a b c)=Value.bool !isE nm a b c],by kernel_rfl,(by refine mcons ?_ mnil<;>first|rfl|trivial)⟩
def C_dbl1:Ctr Td:=fun us sub=>match us,sub with
 |[.agg [.v (.string nm),.v (.int .i64 a),.v (.int .i64 b),.v (.int .i64 c)]],[]=>some ([],svV (.bool (!isE nm a b c)),[⟨.dead,true⟩,⟨.dead,true⟩])
 |_,_=>none
set_option maxRecDepth 100000 in
theorem C_dbl1_ok:CtrOk Try.prog Id' 117 C_dbl1:=by
 intro us sub ps x sm h hp w e vs hM ha
 unfold C_dbl1 at h
 split at h
 ·rename_i nm a b c
  simp only [Option.some.injEq,Prod.mk.injEq] at h
  obtain ⟨rfl,rfl,rfl⟩:=h
  exact ctr_way (I:=Id') (fun (W0:World) (G:Nat→Prop)=>SyOk.mk2 Try.mixed dkHo_ok (FnsR.cons (R_dright) (FnsR.nil)) EqsOk.nil) rfl Try.func117 (by kernel_rfl) (fun _ _=>LpsOk.nil _) (cs:=[]) (by kernel_rfl) (dbl1_w0 nm a b c ) w e vs hM ha
 ·cases h
theorem R_dbl1:RowOk Try.prog Id' hardD 117 (ctrF Id' C_dbl1 hardD):=ctrF_ok Try.call117 C_dbl1_ok
def isR (r:Rw):Bool:=isE (r.ss.getD 0 ⟨#[]⟩) (r.is.getD 0 0) (r.is.getD 1 0) (r.is.getD 2 0)
def isI (R:List Rw) (i:Int):Bool:=isR (R.getD i.toNat Rw.zero)
end Go.Proofs.Ytdenmoiaiemokaa
