/- H60. -/
import Derived.Test.YtonomiljclemnaaH11p
set_option linter.unusedVariables false
set_option linter.unusedSimpArgs false
namespace Go.Proofs.Ytonomiljclemnaa
open Go.RowKit
def hwI (n i:Int):Int:=bif n==0 then 1 else bif decide (i<0)||decide (i≥IntKind.i64.wrap (n - 1)) then 2 else 0
set_option maxRecDepth 100000 in
theorem hwrong_w0 (L:List (List UInt8)) (Q:List (Int×List UInt8)) (fu:Int) (fd off:Bool) (i:Int) (h0:((L.length:Int)==0)=true):∃ qs,wayV ((runFn (⟨Try.prog,[(33,ctrV C_size hardD)],[],dkHo,Id'.one,60⟩:Sy Td) [] Try.f45 [.one (.ptr 0 0),.one (.v (.int .i64 i))] (roM [⟨.bx [.obj 1,.obj 2,.v (.int .i64 fu),.v (.bool fd),.v (.bool off)],true⟩,⟨.us (.ext (.flat (.secs L))),true⟩,⟨.us (.ext (.flat (.pens Q))),true⟩])).al [true]) (fun u=>u=.int .i64 (hwI (L.length:Int) i))=some qs∧∀ q∈qs,q:=
 ⟨[Value.int IntKind.i64 (Int.ofNat 1)=Value.int IntKind.i64 (hwI (↑L.length:Int) i),((↑L.length:Int)==(0:Int))=true],by kernel_rfl,(by refine mcons ?_ (mcons ?_ mnil)<;>first|rfl|exact h0|trivial|(simp only [hwI,h0,h1,cond_true,cond_false];done)|(simp only [hwI,h0,h1,cond_true,cond_false];rfl)|(simp [hwI,h0,h1];done)|(simp only [hwI,h0,cond_true,cond_false];done)|(simp only [hwI,h0,cond_true,cond_false];rfl)|(simp [hwI,h0];done))⟩
set_option maxRecDepth 100000 in
theorem hwrong_w1 (L:List (List UInt8)) (Q:List (Int×List UInt8)) (fu:Int) (fd off:Bool) (i:Int) (h0:((L.length:Int)==0)=false) (h1:(decide (i<0)||decide (i≥IntKind.i64.wrap ((L.length:Int) - 1)))=true):∃ qs,wayV ((runFn (⟨Try.prog,[(33,ctrV C_size hardD)],[],dkHo,Id'.one,60⟩:Sy Td) [] Try.f45 [.one (.ptr 0 0),.one (.v (.int .i64 i))] (roM [⟨.bx [.obj 1,.obj 2,.v (.int .i64 fu),.v (.bool fd),.v (.bool off)],true⟩,⟨.us (.ext (.flat (.secs L))),true⟩,⟨.us (.ext (.flat (.pens Q))),true⟩])).al [false,true]) (fun u=>u=.int .i64 (hwI (L.length:Int) i))=some qs∧∀ q∈qs,q:=
 ⟨[Value.int IntKind.i64 (Int.ofNat 2)=Value.int IntKind.i64 (hwI (↑L.length:Int) i),((↑L.length:Int)==(0:Int))=false,(decide (i<(0:Int))||decide (i≥IntKind.i64.wrap ((↑L.length:Int) - (1:Int))))=true],by kernel_rfl,(by refine mcons ?_ (mcons ?_ (mcons ?_ mnil))<;>first|rfl|exact h0|exact h1|trivial|(simp only [hwI,h0,h1,cond_true,cond_false];done)|(simp only [hwI,h0,h1,cond_true,cond_false];rfl)|(simp [hwI,h0,h1];done)|(simp only [hwI,h0,cond_true,cond_false];done)|(simp only [hwI,h0,cond_true,cond_false];rfl)|(simp [hwI,h0];done))⟩
set_option maxRecDepth 100000 in
theorem hwrong_w2 (L:List (List UInt8)) (Q:List (Int×List UInt8)) (fu:Int) (fd off:Bool) (i:Int) (h0:((L.length:Int)==0)=false) (h1:(decide (i<0)||decide (i≥IntKind.i64.wrap ((L.length:Int) - 1)))=false):∃ qs,wayV ((runFn (⟨Try.prog,[(33,ctrV C_size hardD)],[],dkHo,Id'.one,60⟩:Sy Td) [] Try.f45 [.one (.ptr 0 0),.one (.v (.int .i64 i))] (roM [⟨.bx [.obj 1,.obj 2,.v (.int .i64 fu),.v (.bool fd),.v (.bool off)],true⟩,⟨.us (.ext (.flat (.secs L))),true⟩,⟨.us (.ext (.flat (.pens Q))),true⟩])).al [false,false]) (fun u=>u=.int .i64 (hwI (L.length:Int) i))=some qs∧∀ q∈qs,q:=
 ⟨[Value.int IntKind.i64 (Int.ofNat 0)=Value.int IntKind.i64 (hwI (↑L.length:Int) i),((↑L.length:Int)==(0:Int))=false,(decide (i<(0:Int))||decide (i≥IntKind.i64.wrap ((↑L.length:Int) - (1:Int))))=false],by kernel_rfl,(by refine mcons ?_ (mcons ?_ (mcons ?_ mnil))<;>first|rfl|exact h0|exact h1|trivial|(simp only [hwI,h0,h1,cond_true,cond_false];done)|(simp only [hwI,h0,h1,cond_true,cond_false];rfl)|(simp [hwI,h0,h1];done)|(simp only [hwI,h0,cond_true,cond_false];done)|(simp only [hwI,h0,cond_true,cond_false];rfl)|(simp [hwI,h0];done))⟩
def C_hwrong:CtrV Td:=fun us sub=>match us,sub with
 |[.one (.ptr 0 0),.one (.v (.int .i64 i))],[⟨.bx [.obj 1,.obj 2,.v (.int .i64 fu),.v (.bool fd),.v (.bool off)],false⟩,⟨.us (.ext (.flat (.secs L))),false⟩,⟨.us (.ext (.flat (.pens Q))),false⟩]=>some ([],.int .i64 (hwI (L.length:Int) i))
 |_,_=>none
set_option maxRecDepth 100000 in
theorem C_hwrong_ok:CtrVOk Try.prog Id' 45 C_hwrong:=by
 intro us sub ps x h hp w e vs hM ha
 unfold C_hwrong at h
 split at h
 ·rename_i i fu fd off L Q
  simp only [Option.some.injEq,Prod.mk.injEq] at h
  obtain ⟨rfl,rfl⟩:=h
  rcases Bool.eq_false_or_eq_true ((L.length:Int)==0) with h0|h0
  ·exact ctrv_way (I:=Id') (fun (W0:World) (G:Nat→Prop)=>SyOk.mk2 Try.mixed dkHo_ok (FnsR.cons (R_size) (FnsR.nil)) EqsOk.nil) rfl Try.func45 (by kernel_rfl) (fun _ _=>LpsOk.nil _) (cs:=[true]) (by kernel_rfl) (hwrong_w0 L Q fu fd off i h0) w e vs hM ha
  ·rcases Bool.eq_false_or_eq_true ((decide (i<0)||decide (i≥IntKind.i64.wrap ((L.length:Int) - 1)))) with h1|h1
   ·exact ctrv_way (I:=Id') (fun (W0:World) (G:Nat→Prop)=>SyOk.mk2 Try.mixed dkHo_ok (FnsR.cons (R_size) (FnsR.nil)) EqsOk.nil) rfl Try.func45 (by kernel_rfl) (fun _ _=>LpsOk.nil _) (cs:=[false,true]) (by kernel_rfl) (hwrong_w1 L Q fu fd off i h0 h1) w e vs hM ha
   ·exact ctrv_way (I:=Id') (fun (W0:World) (G:Nat→Prop)=>SyOk.mk2 Try.mixed dkHo_ok (FnsR.cons (R_size) (FnsR.nil)) EqsOk.nil) rfl Try.func45 (by kernel_rfl) (fun _ _=>LpsOk.nil _) (cs:=[false,false]) (by kernel_rfl) (hwrong_w2 L Q fu fd off i h0 h1) w e vs hM ha
 ·cases h
theorem R_hwrong:RowOk Try.prog Id' hardD 45 (ctrV C_hwrong hardD):=ctrV_ok Try.call45 C_hwrong_ok
end Go.Proofs.Ytonomiljclemnaa
