/- Y6. -/
import Derived.Test.YtdenmoiaiemokaaY5p
set_option maxRecDepth 100000
set_option linter.unusedSimpArgs false
set_option linter.unusedVariables false
namespace Go.Proofs.Ytdenmoiaiemokaa
open Go.RowKit
def grE (T:List ((Int×Int)×Int)) (a b c md:Int):Int:=bif !inE c||md != 1&&md != 2 then 2 else bif decide (((othE T a b c md).length:Int)>0) then 21 else 0
def grT (T:List ((Int×Int)×Int)) (a b c md:Int):List ((Int×Int)×Int):=bif !inE c||md != 1&&md != 2 then T else bif decide (((othE T a b c md).length:Int)>0) then T else stT T a b (wiE (mpGet T a b) c (if mdE T a b c>md then mdE T a b c else md))
def drE (T:List ((Int×Int)×Int)) (a b c:Int):Int:=bif mdE T a b c==0 then 11 else 0
def drT (T:List ((Int×Int)×Int)) (a b c:Int):List ((Int×Int)×Int):=bif mdE T a b c==0 then T else stT T a b (wiE (mpGet T a b) c 0)
theorem tgr_w0 (T:List ((Int×Int)×Int)) (a b c md:Int) (h0:(!inE c||md != 1&&md != 2)=true):∃ qs,wayO Id' ([⟨.bx [.obj 1],true⟩,⟨.us (.ext (.mp T)),true⟩]:Mem Td).length [⟨.bx [.obj 1],true⟩,⟨.us (.ext (.mp (grT T a b c md))),true⟩] (.c (.one (.v (.int .i64 (grE T a b c md))))) ((runFn (⟨Try.prog,[(98,ctrV C_din hardD),(39,ctrF Id' C_oth hardD),(100,ctrV C_tof hardD),(43,ctrV C_tmd hardD),(101,ctrV C_mwi hardD),(99,ctrF Id' C_tset hardD)],[],dkHo,Id'.one,60⟩:Sy Td) [] Try.f36 [.one (.ptr 0 0),.agg [.v (.int .i64 a),.v (.int .i64 b)],.one (.v (.int .i64 c)),.one (.v (.int .i64 md))] [⟨.bx [.obj 1],true⟩,⟨.us (.ext (.mp T)),true⟩]).al [true])=some qs∧∀ q∈qs,q:=
 ⟨[(!inE c||md != (1:Int)&&md != (2:Int))=true,(Th.ext (Dk.mp T):Td)=Th.ext (Dk.mp (grT T a b c md)),Value.int IntKind.i64 (Int.ofNat 2)=Value.int IntKind.i64 (grE T a b c md)],by kernel_rfl,(by refine mcons ?_ (mcons ?_ (mcons ?_ mnil))<;>first|rfl|exact h0|trivial|(simp only [grE,h0,h1,cond_true,cond_false];done)|(simp only [grT,h0,h1,cond_true,cond_false];done)|(simp only [grE,h0,cond_true,cond_false];done)|(simp only [grT,h0,cond_true,cond_false];done)|(simp only [drE,h0,cond_true,cond_false];done)|(simp only [drT,h0,cond_true,cond_false];done)|(rw [grT,h0,h1];rfl)|(rw [grE,h0,h1];rfl)|(rw [grT,h0];rfl)|(rw [grE,h0];rfl))⟩
theorem tgr_w1 (T:List ((Int×Int)×Int)) (a b c md:Int) (h0:(!inE c||md != 1&&md != 2)=false) (h1:decide (((othE T a b c md).length:Int)>0)=true):∃ qs,wayO Id' ([⟨.bx [.obj 1],true⟩,⟨.us (.ext (.mp T)),true⟩]:Mem Td).length [⟨.bx [.obj 1],true⟩,⟨.us (.ext (.mp (grT T a b c md))),true⟩] (.c (.one (.v (.int .i64 (grE T a b c md))))) ((runFn (⟨Try.prog,[(98,ctrV C_din hardD),(39,ctrF Id' C_oth hardD),(100,ctrV C_tof hardD),(43,ctrV C_tmd hardD),(101,ctrV C_mwi hardD),(99,ctrF Id' C_tset hardD)],[],dkHo,Id'.one,60⟩:Sy Td) [] Try.f36 [.one (.ptr 0 0),.agg [.v (.int .i64 a),.v (.int .i64 b)],.one (.v (.int .i64 c)),.one (.v (.int .i64 md))] [⟨.bx [.obj 1],true⟩,⟨.us (.ext (.mp T)),true⟩]).al [false,true])=some qs∧∀ q∈qs,q:=
 ⟨[(!inE c||md != (1:Int)&&md != (2:Int))=false,decide ((↑(othE T a b c md).length:Int)>(0:Int))=true,(Th.ext (Dk.mp T):Td)=Th.ext (Dk.mp (grT T a b c md)),Value.int IntKind.i64 (Int.ofNat 21)=Value.int IntKind.i64 (grE T a b c md)],by kernel_rfl,(by refine mcons ?_ (mcons ?_ (mcons ?_ (mcons ?_ mnil)))<;>first|rfl|exact h0|exact h1|trivial|(simp only [grE,h0,h1,cond_true,cond_false];done)|(simp only [grT,h0,h1,cond_true,cond_false];done)|(simp only [grE,h0,cond_true,cond_false];done)|(simp only [grT,h0,cond_true,cond_false];done)|(simp only [drE,h0,cond_true,cond_false];done)|(simp only [drT,h0,cond_true,cond_false];done)|(rw [grT,h0,h1];rfl)|(rw [grE,h0,h1];rfl)|(rw [grT,h0];rfl)|(rw [grE,h0];rfl))⟩
theorem tgr_w2 (T:List ((Int×Int)×Int)) (a b c md:Int) (h0:(!inE c||md != 1&&md != 2)=false) (h1:decide (((othE T a b c md).length:Int)>0)=false) (h2:0≤c∧c<8):∃ qs,wayO Id' ([⟨.bx [.obj 1],true⟩,⟨.us (.ext (.mp T)),true⟩]:Mem Td).length [⟨.bx [.obj 1],true⟩,⟨.us (.ext (.mp (grT T a b c md))),true⟩] (.c (.one (.v (.int .i64 (grE T a b c md))))) ((runFn (⟨Try.prog,[(98,ctrV C_din hardD),(39,ctrF Id' C_oth hardD),(100,ctrV C_tof hardD),(43,ctrV C_tmd hardD),(101,ctrV C_mwi hardD),(99,ctrF Id' C_tset hardD)],[],dkHo,Id'.one,60⟩:Sy Td) [] Try.f36 [.one (.ptr 0 0),.agg [.v (.int .i64 a),.v (.int .i64 b)],.one (.v (.int .i64 c)),.one (.v (.int .i64 md))] [⟨.bx [.obj 1],true⟩,⟨.us (.ext (.mp T)),true⟩]).al [false,false])=some qs∧∀ q∈qs,q:=
 ⟨[(!inE c||md != (1:Int)&&md != (2:Int))=false,decide ((↑(othE T a b c md).length:Int)>(0:Int))=false,(0:Int)≤c∧c<(8:Int),(Th.ext (Dk.mp (stT T a b (wiE (mpGet T a b) c (if mdE T a b c>md then mdE T a b c else md)))):Td)=Th.ext (Dk.mp (grT T a b c md)),Value.int IntKind.i64 (Int.ofNat 0)=Value.int IntKind.i64 (grE T a b c md)],by kernel_rfl,(by refine mcons ?_ (mcons ?_ (mcons ?_ (mcons ?_ (mcons ?_ mnil))))<;>first|rfl|exact h0|exact h1|exact h2|trivial|(simp only [grE,h0,h1,cond_true,cond_false];done)|(simp only [grT,h0,h1,cond_true,cond_false];done)|(simp only [grE,h0,cond_true,cond_false];done)|(simp only [grT,h0,cond_true,cond_false];done)|(simp only [drE,h0,cond_true,cond_false];done)|(simp only [drT,h0,cond_true,cond_false];done)|(rw [grT,h0,h1];rfl)|(rw [grE,h0,h1];rfl)|(rw [grT,h0];rfl)|(rw [grE,h0];rfl))⟩
def C_tgr:Ctr Td:=fun us sub=>match us,sub with
 |[.one (.ptr 0 0),.agg [.v (.int .i64 a),.v (.int .i64 b)],.one (.v (.int .i64 c)),.one (.v (.int .i64 md))],[⟨.bx [.obj 1],true⟩,⟨.us (.ext (.mp T)),true⟩]=>some ([],.c (.one (.v (.int .i64 (grE T a b c md)))),[⟨.bx [.obj 1],true⟩,⟨.us (.ext (.mp (grT T a b c md))),true⟩])
 |_,_=>none
theorem C_tgr_ok:CtrOk Try.prog Id' 36 C_tgr:=by
 intro us sub ps x sm h hp w e vs hM ha
 unfold C_tgr at h
 split at h
 ·rename_i a b c md T
  simp only [Option.some.injEq,Prod.mk.injEq] at h
  obtain ⟨rfl,rfl,rfl⟩:=h
  cases h0:(!inE c||md != 1&&md != 2) with
  |true=>exact ctr_way (I:=Id') (fun (W0:World) (G:Nat→Prop)=>SyOk.mk2 Try.mixed dkHo_ok (FnsR.cons (R_din) (FnsR.cons (R_oth) (FnsR.cons (R_tof) (FnsR.cons (R_tmd) (FnsR.cons (R_mwi) (FnsR.cons (R_tset) (FnsR.nil))))))) EqsOk.nil) rfl Try.func36 (by kernel_rfl) (fun W0 G=>LpsOk.nil _) (cs:=[true]) (by kernel_rfl) (tgr_w0 T a b c md h0) w e vs hM ha
  |false=>
   have hc:0≤c∧c<8:=by
    rw [Bool.or_eq_false_iff,Bool.not_eq_false'] at h0
    exact inE_in h0.1
   cases h1:decide (((othE T a b c md).length:Int)>0) with
   |true=>exact ctr_way (I:=Id') (fun (W0:World) (G:Nat→Prop)=>SyOk.mk2 Try.mixed dkHo_ok (FnsR.cons (R_din) (FnsR.cons (R_oth) (FnsR.cons (R_tof) (FnsR.cons (R_tmd) (FnsR.cons (R_mwi) (FnsR.cons (R_tset) (FnsR.nil))))))) EqsOk.nil) rfl Try.func36 (by kernel_rfl) (fun W0 G=>LpsOk.nil _) (cs:=[false,true]) (by kernel_rfl) (tgr_w1 T a b c md h0 h1) w e vs hM ha
   |false=>exact ctr_way (I:=Id') (fun (W0:World) (G:Nat→Prop)=>SyOk.mk2 Try.mixed dkHo_ok (FnsR.cons (R_din) (FnsR.cons (R_oth) (FnsR.cons (R_tof) (FnsR.cons (R_tmd) (FnsR.cons (R_mwi) (FnsR.cons (R_tset) (FnsR.nil))))))) EqsOk.nil) rfl Try.func36 (by kernel_rfl) (fun W0 G=>LpsOk.nil _) (cs:=[false,false]) (by kernel_rfl) (tgr_w2 T a b c md h0 h1 hc) w e vs hM ha
 ·cases h
theorem R_tgr:RowOk Try.prog Id' hardD 36 (ctrF Id' C_tgr hardD):=ctrF_ok Try.call36 C_tgr_ok
theorem tdr_w0 (T:List ((Int×Int)×Int)) (a b c:Int) (h0:(mdE T a b c==0)=true):∃ qs,wayO Id' ([⟨.bx [.obj 1],true⟩,⟨.us (.ext (.mp T)),true⟩]:Mem Td).length [⟨.bx [.obj 1],true⟩,⟨.us (.ext (.mp (drT T a b c))),true⟩] (.c (.one (.v (.int .i64 (drE T a b c))))) ((runFn (⟨Try.prog,[(43,ctrV C_tmd hardD),(100,ctrV C_tof hardD),(101,ctrV C_mwi hardD),(99,ctrF Id' C_tset hardD)],[],dkHo,Id'.one,60⟩:Sy Td) [] Try.f37 [.one (.ptr 0 0),.agg [.v (.int .i64 a),.v (.int .i64 b)],.one (.v (.int .i64 c))] [⟨.bx [.obj 1],true⟩,⟨.us (.ext (.mp T)),true⟩]).al [true])=some qs∧∀ q∈qs,q:=
 ⟨[(mdE T a b c==(0:Int))=true,(Th.ext (Dk.mp T):Td)=Th.ext (Dk.mp (drT T a b c)),Value.int IntKind.i64 (Int.ofNat 11)=Value.int IntKind.i64 (drE T a b c)],by kernel_rfl,(by refine mcons ?_ (mcons ?_ (mcons ?_ mnil))<;>first|rfl|exact h0|trivial|(simp only [grE,h0,h1,cond_true,cond_false];done)|(simp only [grT,h0,h1,cond_true,cond_false];done)|(simp only [grE,h0,cond_true,cond_false];done)|(simp only [grT,h0,cond_true,cond_false];done)|(simp only [drE,h0,cond_true,cond_false];done)|(simp only [drT,h0,cond_true,cond_false];done)|(rw [drT,h0];rfl)|(rw [drE,h0];rfl))⟩
theorem tdr_w1 (T:List ((Int×Int)×Int)) (a b c:Int) (h0:(mdE T a b c==0)=false) (h1:0≤c∧c<8):∃ qs,wayO Id' ([⟨.bx [.obj 1],true⟩,⟨.us (.ext (.mp T)),true⟩]:Mem Td).length [⟨.bx [.obj 1],true⟩,⟨.us (.ext (.mp (drT T a b c))),true⟩] (.c (.one (.v (.int .i64 (drE T a b c))))) ((runFn (⟨Try.prog,[(43,ctrV C_tmd hardD),(100,ctrV C_tof hardD),(101,ctrV C_mwi hardD),(99,ctrF Id' C_tset hardD)],[],dkHo,Id'.one,60⟩:Sy Td) [] Try.f37 [.one (.ptr 0 0),.agg [.v (.int .i64 a),.v (.int .i64 b)],.one (.v (.int .i64 c))] [⟨.bx [.obj 1],true⟩,⟨.us (.ext (.mp T)),true⟩]).al [false])=some qs∧∀ q∈qs,q:=
 ⟨[(mdE T a b c==(0:Int))=false,(0:Int)≤c∧c<(8:Int),(Th.ext (Dk.mp (stT T a b (wiE (mpGet T a b) c (0:Int)))):Td)=Th.ext (Dk.mp (drT T a b c)),Value.int IntKind.i64 (Int.ofNat 0)=Value.int IntKind.i64 (drE T a b c)],by kernel_rfl,(by refine mcons ?_ (mcons ?_ (mcons ?_ (mcons ?_ mnil)))<;>first|rfl|exact h0|exact h1|trivial|(simp only [grE,h0,h1,cond_true,cond_false];done)|(simp only [grT,h0,h1,cond_true,cond_false];done)|(simp only [grE,h0,cond_true,cond_false];done)|(simp only [grT,h0,cond_true,cond_false];done)|(simp only [drE,h0,cond_true,cond_false];done)|(simp only [drT,h0,cond_true,cond_false];done)|(rw [drT,h0];rfl)|(rw [drE,h0];rfl))⟩
def C_tdr:Ctr Td:=fun us sub=>match us,sub with
 |[.one (.ptr 0 0),.agg [.v (.int .i64 a),.v (.int .i64 b)],.one (.v (.int .i64 c))],[⟨.bx [.obj 1],true⟩,⟨.us (.ext (.mp T)),true⟩]=>some ([],.c (.one (.v (.int .i64 (drE T a b c)))),[⟨.bx [.obj 1],true⟩,⟨.us (.ext (.mp (drT T a b c))),true⟩])
 |_,_=>none
theorem C_tdr_ok:CtrOk Try.prog Id' 37 C_tdr:=by
 intro us sub ps x sm h hp w e vs hM ha
 unfold C_tdr at h
 split at h
 ·rename_i a b c T
  simp only [Option.some.injEq,Prod.mk.injEq] at h
  obtain ⟨rfl,rfl,rfl⟩:=h
  cases h0:(mdE T a b c==0) with
  |true=>exact ctr_way (I:=Id') (fun (W0:World) (G:Nat→Prop)=>SyOk.mk2 Try.mixed dkHo_ok (FnsR.cons (R_tmd) (FnsR.cons (R_tof) (FnsR.cons (R_mwi) (FnsR.cons (R_tset) (FnsR.nil))))) EqsOk.nil) rfl Try.func37 (by kernel_rfl) (fun W0 G=>LpsOk.nil _) (cs:=[true]) (by kernel_rfl) (tdr_w0 T a b c h0) w e vs hM ha
  |false=>
   have hc:0≤c∧c<8:=by
    cases hi:inE c with
    |true=>exact inE_in hi
    |false=>unfold mdE at h0;rw [hi] at h0;cases h0
   exact ctr_way (I:=Id') (fun (W0:World) (G:Nat→Prop)=>SyOk.mk2 Try.mixed dkHo_ok (FnsR.cons (R_tmd) (FnsR.cons (R_tof) (FnsR.cons (R_mwi) (FnsR.cons (R_tset) (FnsR.nil))))) EqsOk.nil) rfl Try.func37 (by kernel_rfl) (fun W0 G=>LpsOk.nil _) (cs:=[false]) (by kernel_rfl) (tdr_w1 T a b c h0 hc) w e vs hM ha
 ·cases h
theorem R_tdr:RowOk Try.prog Id' hardD 37 (ctrF Id' C_tdr hardD):=ctrF_ok Try.call37 C_tdr_ok
end Go.Proofs.Ytdenmoiaiemokaa
