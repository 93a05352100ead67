/- H10. -/
import Derived.Test.YtonomiljclemnaaH9p
import Derived.Test.YtonomiljclemnaaT20p
set_option linter.unusedVariables false
set_option linter.unusedSimpArgs false
namespace Go.Proofs.Ytonomiljclemnaa
open Go.RowKit
def stOff (off fd:Bool) (fu:Int):Bool:=off||(fd&&fu==0)
def stFu (off fd:Bool) (fu:Int):Int:=bif !off&&(fd&&!(fu==0)) then IntKind.i64.wrap (fu - 1) else fu
def wrongI (n i:Int):Int:=bif n==0 then 1 else bif decide (i<0)||decide (i≥n) then 2 else 0
set_option maxRecDepth 100000 in
theorem step_w0 (L:List (List UInt8)) (Q:List (Int×List UInt8)) (fu:Int) (fd off:Bool) (h0:off=true):∃ qs,wayO Id' ([⟨.bx [.obj 1,.obj 2,.v (.int .i64 fu),.v (.bool fd),.v (.bool off)],true⟩,⟨.us (.ext (.flat (.secs L))),true⟩,⟨.us (.ext (.flat (.pens Q))),true⟩]:Mem Td).length [⟨.bx [.obj 1,.obj 2,.v (.int .i64 (stFu off fd fu)),.v (.bool fd),.v (.bool (stOff off fd fu))],true⟩,⟨.us (.ext (.flat (.secs L))),true⟩,⟨.us (.ext (.flat (.pens Q))),true⟩] (svV (.bool (!stOff off fd fu))) ((runFn (⟨Try.prog,[],[],dkHo,Id'.one,60⟩:Sy Td) [] Try.f40 [.one (.ptr 0 0)] [⟨.bx [.obj 1,.obj 2,.v (.int .i64 fu),.v (.bool fd),.v (.bool off)],true⟩,⟨.us (.ext (.flat (.secs L))),true⟩,⟨.us (.ext (.flat (.pens Q))),true⟩]).al [true])=some qs∧∀ q∈qs,q:=
 ⟨[off=true,Value.int IntKind.i64 fu=Value.int IntKind.i64 (stFu off fd fu),Value.bool fd=Value.bool fd,Value.bool off=Value.bool (stOff off fd fu),Th.ext (Dk.flat (FL.secs L))=Th.ext (Dk.flat (FL.secs L)),Th.ext (Dk.flat (FL.pens Q))=Th.ext (Dk.flat (FL.pens Q)),(Value.bool !off)=Value.bool !stOff off fd fu],by kernel_rfl,(by refine mcons ?_ (mcons ?_ (mcons ?_ (mcons ?_ (mcons ?_ (mcons ?_ (mcons ?_ mnil))))))<;>first|rfl|exact h0|trivial|(simp [stOff,stFu,h0];done)|(simp [stOff,stFu,h0,h1];done)|(simp [stOff,stFu,h0,h1,h2];done))⟩
set_option maxRecDepth 100000 in
theorem step_w1 (L:List (List UInt8)) (Q:List (Int×List UInt8)) (fu:Int) (fd off:Bool) (h0:off=false) (h1:fd=false):∃ qs,wayO Id' ([⟨.bx [.obj 1,.obj 2,.v (.int .i64 fu),.v (.bool fd),.v (.bool off)],true⟩,⟨.us (.ext (.flat (.secs L))),true⟩,⟨.us (.ext (.flat (.pens Q))),true⟩]:Mem Td).length [⟨.bx [.obj 1,.obj 2,.v (.int .i64 (stFu off fd fu)),.v (.bool fd),.v (.bool (stOff off fd fu))],true⟩,⟨.us (.ext (.flat (.secs L))),true⟩,⟨.us (.ext (.flat (.pens Q))),true⟩] (svV (.bool (!stOff off fd fu))) ((runFn (⟨Try.prog,[],[],dkHo,Id'.one,60⟩:Sy Td) [] Try.f40 [.one (.ptr 0 0)] [⟨.bx [.obj 1,.obj 2,.v (.int .i64 fu),.v (.bool fd),.v (.bool off)],true⟩,⟨.us (.ext (.flat (.secs L))),true⟩,⟨.us (.ext (.flat (.pens Q))),true⟩]).al [false,true])=some qs∧∀ q∈qs,q:=
 ⟨[off=false,(!fd)=true,Value.int IntKind.i64 fu=Value.int IntKind.i64 (stFu off fd fu),Value.bool fd=Value.bool fd,Value.bool off=Value.bool (stOff off fd fu),Th.ext (Dk.flat (FL.secs L))=Th.ext (Dk.flat (FL.secs L)),Th.ext (Dk.flat (FL.pens Q))=Th.ext (Dk.flat (FL.pens Q)),(Value.bool !off)=Value.bool !stOff off fd fu],by kernel_rfl,(by refine mcons ?_ (mcons ?_ (mcons ?_ (mcons ?_ (mcons ?_ (mcons ?_ (mcons ?_ (mcons ?_ mnil)))))))<;>first|rfl|exact h0|exact h1|trivial|(simp [stOff,stFu,h0];done)|(simp [stOff,stFu,h0,h1];done)|(simp [stOff,stFu,h0,h1,h2];done))⟩
set_option maxRecDepth 100000 in
theorem step_w2 (L:List (List UInt8)) (Q:List (Int×List UInt8)) (fu:Int) (fd off:Bool) (h0:off=false) (h1:fd=true) (h2:(fu==0)=true):∃ qs,wayO Id' ([⟨.bx [.obj 1,.obj 2,.v (.int .i64 fu),.v (.bool fd),.v (.bool off)],true⟩,⟨.us (.ext (.flat (.secs L))),true⟩,⟨.us (.ext (.flat (.pens Q))),true⟩]:Mem Td).length [⟨.bx [.obj 1,.obj 2,.v (.int .i64 (stFu off fd fu)),.v (.bool fd),.v (.bool (stOff off fd fu))],true⟩,⟨.us (.ext (.flat (.secs L))),true⟩,⟨.us (.ext (.flat (.pens Q))),true⟩] (svV (.bool (!stOff off fd fu))) ((runFn (⟨Try.prog,[],[],dkHo,Id'.one,60⟩:Sy Td) [] Try.f40 [.one (.ptr 0 0)] [⟨.bx [.obj 1,.obj 2,.v (.int .i64 fu),.v (.bool fd),.v (.bool off)],true⟩,⟨.us (.ext (.flat (.secs L))),true⟩,⟨.us (.ext (.flat (.pens Q))),true⟩]).al [false,false,true])=some qs∧∀ q∈qs,q:=
 ⟨[off=false,(!fd)=false,(fu==(0:Int))=true,Value.int IntKind.i64 fu=Value.int IntKind.i64 (stFu off fd fu),Value.bool fd=Value.bool fd,Value.bool true=Value.bool (stOff off fd fu),Th.ext (Dk.flat (FL.secs L))=Th.ext (Dk.flat (FL.secs L)),Th.ext (Dk.flat (FL.pens Q))=Th.ext (Dk.flat (FL.pens Q)),Value.bool false=Value.bool !stOff off fd fu],by kernel_rfl,(by refine mcons ?_ (mcons ?_ (mcons ?_ (mcons ?_ (mcons ?_ (mcons ?_ (mcons ?_ (mcons ?_ (mcons ?_ mnil))))))))<;>first|rfl|exact h0|exact h1|exact h2|trivial|(simp [stOff,stFu,h0];done)|(simp [stOff,stFu,h0,h1];done)|(simp [stOff,stFu,h0,h1,h2];done))⟩
set_option maxRecDepth 100000 in
theorem step_w3 (L:List (List UInt8)) (Q:List (Int×List UInt8)) (fu:Int) (fd off:Bool) (h0:off=false) (h1:fd=true) (h2:(fu==0)=false):∃ qs,wayO Id' ([⟨.bx [.obj 1,.obj 2,.v (.int .i64 fu),.v (.bool fd),.v (.bool off)],true⟩,⟨.us (.ext (.flat (.secs L))),true⟩,⟨.us (.ext (.flat (.pens Q))),true⟩]:Mem Td).length [⟨.bx [.obj 1,.obj 2,.v (.int .i64 (stFu off fd fu)),.v (.bool fd),.v (.bool (stOff off fd fu))],true⟩,⟨.us (.ext (.flat (.secs L))),true⟩,⟨.us (.ext (.flat (.pens Q))),true⟩] (svV (.bool (!stOff off fd fu))) ((runFn (⟨Try.prog,[],[],dkHo,Id'.one,60⟩:Sy Td) [] Try.f40 [.one (.ptr 0 0)] [⟨.bx [.obj 1,.obj 2,.v (.int .i64 fu),.v (.bool fd),.v (.bool off)],true⟩,⟨.us (.ext (.flat (.secs L))),true⟩,⟨.us (.ext (.flat (.pens Q))),true⟩]).al [false,false,false])=some qs∧∀ q∈qs,q:=
 ⟨[off=false,(!fd)=false,(fu==(0:Int))=false,Value.int IntKind.i64 (IntKind.i64.wrap (fu - (1:Int)))=Value.int IntKind.i64 (stFu off fd fu),Value.bool fd=Value.bool fd,Value.bool off=Value.bool (stOff off fd fu),Th.ext (Dk.flat (FL.secs L))=Th.ext (Dk.flat (FL.secs L)),Th.ext (Dk.flat (FL.pens Q))=Th.ext (Dk.flat (FL.pens Q)),(Value.bool !off)=Value.bool !stOff off fd fu],by kernel_rfl,(by refine mcons ?_ (mcons ?_ (mcons ?_ (mcons ?_ (mcons ?_ (mcons ?_ (mcons ?_ (mcons ?_ (mcons ?_ mnil))))))))<;>first|rfl|exact h0|exact h1|exact h2|trivial|(simp [stOff,stFu,h0];done)|(simp [stOff,stFu,h0,h1];done)|(simp [stOff,stFu,h0,h1,h2];done))⟩
def C_step:Ctr Td:=fun us sub=>match us,sub with
 |[.one (.ptr 0 0)],[⟨.bx [.obj 1,.obj 2,.v (.int .i64 fu),.v (.bool fd),.v (.bool off)],true⟩,⟨.us (.ext (.flat (.secs L))),true⟩,⟨.us (.ext (.flat (.pens Q))),true⟩]=>some ([],svV (.bool (!stOff off fd fu)),[⟨.bx [.obj 1,.obj 2,.v (.int .i64 (stFu off fd fu)),.v (.bool fd),.v (.bool (stOff off fd fu))],true⟩,⟨.us (.ext (.flat (.secs L))),true⟩,⟨.us (.ext (.flat (.pens Q))),true⟩])
 |_,_=>none
set_option maxRecDepth 100000 in
theorem C_step_ok:CtrOk Try.prog Id' 40 C_step:=by
 intro us sub ps x sm h hp w e vs hM ha
 unfold C_step at h
 split at h
 ·rename_i fu fd off L Q
  simp only [Option.some.injEq,Prod.mk.injEq] at h
  obtain ⟨rfl,rfl,rfl⟩:=h
  rcases Bool.eq_false_or_eq_true (off) with h0|h0
  ·exact ctr_way (I:=Id') (fun (W0:World) (G:Nat→Prop)=>SyOk.mk2 Try.mixed dkHo_ok (FnsR.nil) EqsOk.nil) rfl Try.func40 (by kernel_rfl) (fun _ _=>LpsOk.nil _) (cs:=[true]) (by kernel_rfl) (step_w0 L Q fu fd off h0) w e vs hM ha
  ·rcases Bool.eq_false_or_eq_true (fd) with h1|h1
   ·rcases Bool.eq_false_or_eq_true (fu==0) with h2|h2
    ·exact ctr_way (I:=Id') (fun (W0:World) (G:Nat→Prop)=>SyOk.mk2 Try.mixed dkHo_ok (FnsR.nil) EqsOk.nil) rfl Try.func40 (by kernel_rfl) (fun _ _=>LpsOk.nil _) (cs:=[false,false,true]) (by kernel_rfl) (step_w2 L Q fu fd off h0 h1 h2) w e vs hM ha
    ·exact ctr_way (I:=Id') (fun (W0:World) (G:Nat→Prop)=>SyOk.mk2 Try.mixed dkHo_ok (FnsR.nil) EqsOk.nil) rfl Try.func40 (by kernel_rfl) (fun _ _=>LpsOk.nil _) (cs:=[false,false,false]) (by kernel_rfl) (step_w3 L Q fu fd off h0 h1 h2) w e vs hM ha
   ·exact ctr_way (I:=Id') (fun (W0:World) (G:Nat→Prop)=>SyOk.mk2 Try.mixed dkHo_ok (FnsR.nil) EqsOk.nil) rfl Try.func40 (by kernel_rfl) (fun _ _=>LpsOk.nil _) (cs:=[false,true]) (by kernel_rfl) (step_w1 L Q fu fd off h0 h1) w e vs hM ha
 ·cases h
theorem R_step:RowOk Try.prog Id' hardD 40 (ctrF Id' C_step hardD):=ctrF_ok Try.call40 C_step_ok
set_option maxRecDepth 100000 in
theorem size_w0 (L:List (List UInt8)) (Q:List (Int×List UInt8)) (fu:Int) (fd off:Bool) :∃ qs,wayV ((runFn (⟨Try.prog,[],[],dkHo,Id'.one,60⟩:Sy Td) [] Try.f33 [.one (.ptr 0 0)] (roM [⟨.bx [.obj 1,.obj 2,.v (.int .i64 fu),.v (.bool fd),.v (.bool off)],true⟩,⟨.us (.ext (.flat (.secs L))),true⟩,⟨.us (.ext (.flat (.pens Q))),true⟩])).al []) (fun u=>u=.int .i64 (L.length:Int))=some qs∧∀ q∈qs,q:=
 ⟨[Value.int IntKind.i64 (↑(FL.secs L).n:Int)=Value.int IntKind.i64 (↑L.length:Int)],by kernel_rfl,(by refine mcons ?_ mnil<;>first|rfl|trivial)⟩
def C_size:CtrV Td:=fun us sub=>match us,sub with
 |[.one (.ptr 0 0)],[⟨.bx [.obj 1,.obj 2,.v (.int .i64 fu),.v (.bool fd),.v (.bool off)],false⟩,⟨.us (.ext (.flat (.secs L))),false⟩,⟨.us (.ext (.flat (.pens Q))),false⟩]=>some ([],.int .i64 (L.length:Int))
 |_,_=>none
set_option maxRecDepth 100000 in
theorem C_size_ok:CtrVOk Try.prog Id' 33 C_size:=by
 intro us sub ps x h hp w e vs hM ha
 unfold C_size at h
 split at h
 ·rename_i fu fd off L Q
  simp only [Option.some.injEq,Prod.mk.injEq] at h
  obtain ⟨rfl,rfl⟩:=h
  exact ctrv_way (I:=Id') (fun (W0:World) (G:Nat→Prop)=>SyOk.mk2 Try.mixed dkHo_ok (FnsR.nil) EqsOk.nil) rfl Try.func33 (by kernel_rfl) (fun _ _=>LpsOk.nil _) (cs:=[]) (by kernel_rfl) (size_w0 L Q fu fd off ) w e vs hM ha
 ·cases h
theorem R_size:RowOk Try.prog Id' hardD 33 (ctrV C_size hardD):=ctrV_ok Try.call33 C_size_ok
end Go.Proofs.Ytonomiljclemnaa
