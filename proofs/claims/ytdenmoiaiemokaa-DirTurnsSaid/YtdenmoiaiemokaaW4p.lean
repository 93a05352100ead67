/- W4. -/
import Derived.Test.YtdenmoiaiemokaaW3p
set_option linter.unusedVariables false
set_option linter.unusedSimpArgs false
namespace Go.Proofs.Ytdenmoiaiemokaa
open Go.RowKit
set_option maxRecDepth 100000 in
theorem find_w0 (R:List Rw) (s:ByteArray) (h0:R.length≤100000):∃ qs,wayO Id' ([⟨.us (.ext (.vw [true,false,false,false] R)),false⟩]:Mem Td).length [⟨.us (.ext (.vw [true,false,false,false] R)),false⟩] (.tup [.one (.v (.int .i64 (bsE R s))),.one (.v (.bool (bsB R s)))]) ((runFn (⟨Try.prog,[(130,ctrF Id' C_bsf hardD)],[],dkHo,Id'.one,60⟩:Sy Td) [] Try.f66 [.one (.obj 0),.one (.v (.string s))] [⟨.us (.ext (.vw [true,false,false,false] R)),false⟩]).al [])=some qs∧∀ q∈qs,q:=
 ⟨[R.length≤(100000:Nat),Th.ext (Dk.vw [true,false,false,false] R)=Th.ext (Dk.vw [true,false,false,false] R),Value.int IntKind.i64 (bsE R s)=Value.int IntKind.i64 (bsE R s),Value.bool (bsB R s)=Value.bool (bsB R s)],by kernel_rfl,(by refine mcons ?_ (mcons ?_ (mcons ?_ (mcons ?_ mnil)))<;>first|rfl|exact h0|trivial)⟩
def C_find:Ctr Td:=fun us sub=>match us,sub with
 |[.one (.obj 0),.one (.v (.string s))],[⟨.us (.ext (.vw [true,false,false,false] R)),false⟩]=>some ([R.length≤100000],.tup [.one (.v (.int .i64 (bsE R s))),.one (.v (.bool (bsB R s)))],[⟨.us (.ext (.vw [true,false,false,false] R)),false⟩])
 |_,_=>none
set_option maxRecDepth 100000 in
theorem C_find_ok:CtrOk Try.prog Id' 66 C_find:=by
 intro us sub ps x sm h hp w e vs hM ha
 unfold C_find at h
 split at h
 ·rename_i s R
  simp only [Option.some.injEq,Prod.mk.injEq] at h
  obtain ⟨rfl,rfl,rfl⟩:=h
  exact ctr_way (I:=Id') (fun (W0:World) (G:Nat→Prop)=>SyOk.mk2 Try.mixed dkHo_ok (FnsR.cons (R_bsf) (FnsR.nil)) EqsOk.nil) rfl Try.func66 (by kernel_rfl) (fun _ _=>LpsOk.nil _) (cs:=[]) (by kernel_rfl) (find_w0 R s (hp _ (List.mem_cons_self ..))) w e vs hM ha
 ·cases h
end Go.Proofs.Ytdenmoiaiemokaa
