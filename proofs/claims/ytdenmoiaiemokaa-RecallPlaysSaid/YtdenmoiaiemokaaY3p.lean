/- Y3. -/
import Derived.Test.YtdenmoiaiemokaaY2p
set_option linter.unusedSimpArgs false
set_option linter.unusedVariables false
namespace Go.Proofs.Ytdenmoiaiemokaa
open Go.RowKit
set_option maxRecDepth 100000 in
theorem tmd_w0 (T:List ((Int×Int)×Int)) (a b:Int) (c:Int) (h0:inE c=true) (h1:0≤c∧c<8):∃ qs,wayV ((runFn (⟨Try.prog,[(98,ctrV C_din hardD),(100,ctrV C_tof hardD),(107,ctrV C_mof hardD)],[],dkHo,Id'.one,60⟩:Sy Td) [] Try.f43 [.one (.ptr 0 0),.agg [.v (.int .i64 a),.v (.int .i64 b)],.one (.v (.int .i64 c))] (roM [⟨.bx [.obj 1],true⟩,⟨.us (.ext (.mp T)),true⟩])).al [false]) (fun u=>u=.int .i64 (mdE T a b c))=some qs∧∀ q∈qs,q:=
 ⟨[Value.int IntKind.i64 (ofE (mpGet T a b) c)=Value.int IntKind.i64 (mdE T a b c),(!inE c)=false,(0:Int)≤c∧c<(8:Int)],by kernel_rfl,(by refine mcons ?_ (mcons ?_ (mcons ?_ mnil))<;>first|rfl|exact h0|exact h1|trivial|(simp only [mdE,h0,cond_true,cond_false];done)|(simp only [mdE,h0,cond_true,cond_false];rfl)|(simp [mdE,h0];done)|(rw [h0];rfl))⟩
set_option maxRecDepth 100000 in
theorem tmd_w1 (T:List ((Int×Int)×Int)) (a b:Int) (c:Int) (h0:inE c=false):∃ qs,wayV ((runFn (⟨Try.prog,[(98,ctrV C_din hardD),(100,ctrV C_tof hardD),(107,ctrV C_mof hardD)],[],dkHo,Id'.one,60⟩:Sy Td) [] Try.f43 [.one (.ptr 0 0),.agg [.v (.int .i64 a),.v (.int .i64 b)],.one (.v (.int .i64 c))] (roM [⟨.bx [.obj 1],true⟩,⟨.us (.ext (.mp T)),true⟩])).al [true]) (fun u=>u=.int .i64 (mdE T a b c))=some qs∧∀ q∈qs,q:=
 ⟨[Value.int IntKind.i64 (Int.ofNat 0)=Value.int IntKind.i64 (mdE T a b c),(!inE c)=true],by kernel_rfl,(by refine mcons ?_ (mcons ?_ mnil)<;>first|rfl|exact h0|trivial|(simp only [mdE,h0,cond_true,cond_false];done)|(simp only [mdE,h0,cond_true,cond_false];rfl)|(simp [mdE,h0];done)|(rw [h0];rfl))⟩
theorem inE_in {c:Int} (h:inE c=true):0≤c∧c<8:=by
 unfold inE at h
 rw [Bool.and_eq_true,decide_eq_true_eq,decide_eq_true_eq] at h
 omega
theorem inE_of {c:Int} (h:0≤c∧c<8):inE c=true:=by
 unfold inE
 rw [Bool.and_eq_true,decide_eq_true_eq,decide_eq_true_eq]
 omega
def C_tmd:CtrV Td:=fun us sub=>match us,sub with
 |[.one (.ptr 0 0),.agg [.v (.int .i64 a),.v (.int .i64 b)],.one (.v (.int .i64 c))],[⟨.bx [.obj 1],false⟩,⟨.us (.ext (.mp T)),false⟩]=>some ([],.int .i64 (mdE T a b c))
 |_,_=>none
set_option maxRecDepth 100000 in
theorem C_tmd_ok:CtrVOk Try.prog Id' 43 C_tmd:=by
 intro us sub ps x h hp w e vs hM ha
 unfold C_tmd at h
 split at h
 ·rename_i a b c T
  simp only [Option.some.injEq,Prod.mk.injEq] at h
  obtain ⟨rfl,rfl⟩:=h
  cases h0:inE c with
  |true=>exact ctrv_way (I:=Id') (fun (W0:World) (G:Nat→Prop)=>SyOk.mk2 Try.mixed dkHo_ok (FnsR.cons (R_din) (FnsR.cons (R_tof) (FnsR.cons (R_mof) (FnsR.nil)))) EqsOk.nil) rfl Try.func43 (by kernel_rfl) (fun W0 G=>LpsOk.nil _) (cs:=[false]) (by kernel_rfl) (tmd_w0 T a b c h0 (inE_in h0)) w e vs hM ha
  |false=>exact ctrv_way (I:=Id') (fun (W0:World) (G:Nat→Prop)=>SyOk.mk2 Try.mixed dkHo_ok (FnsR.cons (R_din) (FnsR.cons (R_tof) (FnsR.cons (R_mof) (FnsR.nil)))) EqsOk.nil) rfl Try.func43 (by kernel_rfl) (fun W0 G=>LpsOk.nil _) (cs:=[true]) (by kernel_rfl) (tmd_w1 T a b c h0) w e vs hM ha
 ·cases h
theorem R_tmd:RowOk Try.prog Id' hardD 43 (ctrV C_tmd hardD):=ctrV_ok Try.call43 C_tmd_ok
end Go.Proofs.Ytdenmoiaiemokaa
