/- Y2. -/
import Derived.Test.YtdenmoiaiemokaaY1p
set_option maxRecDepth 100000
set_option linter.unusedSimpArgs false
set_option linter.unusedVariables false
namespace Go.Proofs.Ytdenmoiaiemokaa
open Go.RowKit
def stT (T:List ((Int×Int)×Int)) (a b m:Int):List ((Int×Int)×Int):=bif m==0 then mpDel T a b else mpPut T a b m
def mdE (T:List ((Int×Int)×Int)) (a b c:Int):Int:=bif inE c then ofE (mpGet T a b) c else 0
theorem tof_w0 (T:List ((Int×Int)×Int)) (a b:Int) :∃ qs,wayV ((runFn (⟨Try.prog,[],[],dkHo,Id'.one,60⟩:Sy Td) [] Try.f100 [.one (.ptr 0 0),.agg [.v (.int .i64 a),.v (.int .i64 b)]] (roM [⟨.bx [.obj 1],true⟩,⟨.us (.ext (.mp T)),true⟩])).al []) (fun u=>u=.int .u16 (mpGet T a b))=some qs∧∀ q∈qs,q:=
 ⟨[Value.int IntKind.u16 (mpGet T a b)=Value.int IntKind.u16 (mpGet T a b)],by kernel_rfl,(by refine mcons ?_ mnil<;>first|rfl|trivial)⟩
def C_tof:CtrV Td:=fun us sub=>match us,sub with
 |[.one (.ptr 0 0),.agg [.v (.int .i64 a),.v (.int .i64 b)]],[⟨.bx [.obj 1],false⟩,⟨.us (.ext (.mp T)),false⟩]=>some ([],.int .u16 (mpGet T a b))
 |_,_=>none
theorem C_tof_ok:CtrVOk Try.prog Id' 100 C_tof:=by
 intro us sub ps x h hp w e vs hM ha
 unfold C_tof at h
 split at h
 ·rename_i a b T
  simp only [Option.some.injEq,Prod.mk.injEq] at h
  obtain ⟨rfl,rfl⟩:=h
  exact ctrv_way (I:=Id') (fun (W0:World) (G:Nat→Prop)=>SyOk.mk2 Try.mixed dkHo_ok (FnsR.nil) EqsOk.nil) rfl Try.func100 (by kernel_rfl) (fun W0 G=>LpsOk.nil _) (cs:=[]) (by kernel_rfl) (tof_w0 T a b ) w e vs hM ha
 ·cases h
theorem R_tof:RowOk Try.prog Id' hardD 100 (ctrV C_tof hardD):=ctrV_ok Try.call100 C_tof_ok
theorem tset_w0 (T:List ((Int×Int)×Int)) (a b:Int) (m:Int) (h0:(m==0)=true):∃ qs,wayO Id' ([⟨.bx [.obj 1],true⟩,⟨.us (.ext (.mp T)),true⟩]:Mem Td).length [⟨.bx [.obj 1],true⟩,⟨.us (.ext (.mp (stT T a b m))),true⟩] (.tup []) ((runFn (⟨Try.prog,[],[],dkHo,Id'.one,60⟩:Sy Td) [] Try.f99 [.one (.ptr 0 0),.agg [.v (.int .i64 a),.v (.int .i64 b)],.one (.v (.int .u16 m))] [⟨.bx [.obj 1],true⟩,⟨.us (.ext (.mp T)),true⟩]).al [true])=some qs∧∀ q∈qs,q:=
 ⟨[(m==(0:Int))=true,(Th.ext (Dk.mp (mpDel T a b)):Td)=Th.ext (Dk.mp (stT T a b m))],by kernel_rfl,(by refine mcons ?_ (mcons ?_ mnil)<;>first|rfl|exact h0|trivial|(simp only [stT,h0,cond_true,cond_false];done)|(simp only [stT,h0,cond_true,cond_false];rfl)|(simp [stT,h0];done))⟩
theorem tset_w1 (T:List ((Int×Int)×Int)) (a b:Int) (m:Int) (h0:(m==0)=false):∃ qs,wayO Id' ([⟨.bx [.obj 1],true⟩,⟨.us (.ext (.mp T)),true⟩]:Mem Td).length [⟨.bx [.obj 1],true⟩,⟨.us (.ext (.mp (stT T a b m))),true⟩] (.tup []) ((runFn (⟨Try.prog,[],[],dkHo,Id'.one,60⟩:Sy Td) [] Try.f99 [.one (.ptr 0 0),.agg [.v (.int .i64 a),.v (.int .i64 b)],.one (.v (.int .u16 m))] [⟨.bx [.obj 1],true⟩,⟨.us (.ext (.mp T)),true⟩]).al [false])=some qs∧∀ q∈qs,q:=
 ⟨[(m==(0:Int))=false,(Th.ext (Dk.mp (mpPut T a b m)):Td)=Th.ext (Dk.mp (stT T a b m))],by kernel_rfl,(by refine mcons ?_ (mcons ?_ mnil)<;>first|rfl|exact h0|trivial|(simp only [stT,h0,cond_true,cond_false];done)|(simp only [stT,h0,cond_true,cond_false];rfl)|(simp [stT,h0];done))⟩
def C_tset:Ctr Td:=fun us sub=>match us,sub with
 |[.one (.ptr 0 0),.agg [.v (.int .i64 a),.v (.int .i64 b)],.one (.v (.int .u16 m))],[⟨.bx [.obj 1],true⟩,⟨.us (.ext (.mp T)),true⟩]=>some ([],.tup [],[⟨.bx [.obj 1],true⟩,⟨.us (.ext (.mp (stT T a b m))),true⟩])
 |_,_=>none
theorem C_tset_ok:CtrOk Try.prog Id' 99 C_tset:=by
 intro us sub ps x sm h hp w e vs hM ha
 unfold C_tset at h
 split at h
 ·rename_i a b m T
  simp only [Option.some.injEq,Prod.mk.injEq] at h
  obtain ⟨rfl,rfl,rfl⟩:=h
  cases h0:(m==0) with
  |true=>exact ctr_way (I:=Id') (fun (W0:World) (G:Nat→Prop)=>SyOk.mk2 Try.mixed dkHo_ok (FnsR.nil) EqsOk.nil) rfl Try.func99 (by kernel_rfl) (fun W0 G=>LpsOk.nil _) (cs:=[true]) (by kernel_rfl) (tset_w0 T a b m h0) w e vs hM ha
  |false=>exact ctr_way (I:=Id') (fun (W0:World) (G:Nat→Prop)=>SyOk.mk2 Try.mixed dkHo_ok (FnsR.nil) EqsOk.nil) rfl Try.func99 (by kernel_rfl) (fun W0 G=>LpsOk.nil _) (cs:=[false]) (by kernel_rfl) (tset_w1 T a b m h0) w e vs hM ha
 ·cases h
theorem R_tset:RowOk Try.prog Id' hardD 99 (ctrF Id' C_tset hardD):=ctrF_ok Try.call99 C_tset_ok
theorem tnew_w0  :∃ qs,wayO Id' ([]:Mem Td).length [⟨.bx [.obj 1],true⟩,⟨.us (.ext (.mp [])),true⟩] (.c (.one (.ptr 0 0))) ((runFn (⟨Try.prog,[],[],dkHo,Id'.one,60⟩:Sy Td) [] Try.f34 [] []).al [])=some qs∧∀ q∈qs,q:=
 ⟨[(Th.ext (Dk.mp []):Td)=Th.ext (Dk.mp [])],by kernel_rfl,(by refine mcons ?_ mnil<;>first|rfl|trivial)⟩
def C_tnew:Ctr Td:=fun us sub=>match us,sub with
 |[],[]=>some ([],.c (.one (.ptr 0 0)),[⟨.bx [.obj 1],true⟩,⟨.us (.ext (.mp [])),true⟩])
 |_,_=>none
theorem C_tnew_ok:CtrOk Try.prog Id' 34 C_tnew:=by
 intro us sub ps x sm h hp w e vs hM ha
 unfold C_tnew at h
 split at h
 ·skip
  simp only [Option.some.injEq,Prod.mk.injEq] at h
  obtain ⟨rfl,rfl,rfl⟩:=h
  exact ctr_way (I:=Id') (fun (W0:World) (G:Nat→Prop)=>SyOk.mk2 Try.mixed dkHo_ok (FnsR.nil) EqsOk.nil) rfl Try.func34 (by kernel_rfl) (fun W0 G=>LpsOk.nil _) (cs:=[]) (by kernel_rfl) (tnew_w0  ) w e vs hM ha
 ·cases h
theorem R_tnew:RowOk Try.prog Id' hardD 34 (ctrF Id' C_tnew hardD):=ctrF_ok Try.call34 C_tnew_ok
end Go.Proofs.Ytdenmoiaiemokaa
