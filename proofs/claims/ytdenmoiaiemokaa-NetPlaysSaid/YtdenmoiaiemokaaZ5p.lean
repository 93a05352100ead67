/- Z4 Z5. -/
import Derived.Test.YtdenmoiaiemokaaZ3p
set_option linter.unusedVariables false
set_option linter.unusedSimpArgs false
namespace Go.Proofs.Ytdenmoiaiemokaa
open Go.RowKit
set_option maxRecDepth 100000 in
theorem rsend_w0 (Q:List (Int×List UInt8)) (a:Int) (l:List UInt8) (h0:(decide (a<0)||decide (a>8))=true):∃ qs,wayO Id' ([⟨.bx [.obj 2],true⟩,⟨.us (.byt l),false⟩,⟨.us (.ext (.tab (.wq 39 Q))),true⟩]:Mem Td).length [⟨.bx [.obj 3],true⟩,⟨.us (.byt l),false⟩,⟨.dead,true⟩,⟨.us (.ext (.tab (.wq 39 (sdQ Q a l)))),true⟩] (.c (.one (.v (.int .i64 (sdE Q a))))) ((runFn (⟨Try.prog,[(14,ctrF Id' C_rcopyB hardD)],[],dkHo,Id'.one,60⟩:Sy Td) [] Try.f17 [.one (.ptr 0 0),.agg [.v (.int .i64 a),.obj 1]] [⟨.bx [.obj 2],true⟩,⟨.us (.byt l),false⟩,⟨.us (.ext (.tab (.wq 39 Q))),true⟩]).al [true])=some qs∧∀ q∈qs,q:=
 ⟨[(decide (a<(0:Int))||decide (a>(8:Int)))=true,(Th.byt l:Td)=Th.byt l,(Th.ext (Dk.tab (TB.wq 39 Q)):Td)=Th.ext (Dk.tab (TB.wq 39 (sdQ Q a l))),Value.int IntKind.i64 (Int.ofNat 2)=Value.int IntKind.i64 (sdE Q a)],by kernel_rfl,(by refine mcons ?_ (mcons ?_ (mcons ?_ (mcons ?_ mnil)))<;>first|rfl|exact h0|trivial|(exact h3)|(exact h2)|(simp only [sdQ,sdE,h0,h1,cond_true,cond_false];done)|(simp only [sdQ,sdE,h0,h1,cond_true,cond_false];rfl)|(simp [sdQ,sdE,h0,h1];done)|(simp only [sdQ,sdE,h0,cond_true,cond_false];done)|(simp only [sdQ,sdE,h0,cond_true,cond_false];rfl)|(simp [sdQ,sdE,h0];done)|(simp [sdQ,sdE,h0];done)|(simp [sdQ,sdE,h0,h1];done))⟩
set_option maxRecDepth 100000 in
theorem rsend_w1 (Q:List (Int×List UInt8)) (a:Int) (l:List UInt8) (h0:(decide (a<0)||decide (a>8))=false) (h1:decide ((Q.length:Int)≥256)=true):∃ qs,wayO Id' ([⟨.bx [.obj 2],true⟩,⟨.us (.byt l),false⟩,⟨.us (.ext (.tab (.wq 39 Q))),true⟩]:Mem Td).length [⟨.bx [.obj 3],true⟩,⟨.us (.byt l),false⟩,⟨.dead,true⟩,⟨.us (.ext (.tab (.wq 39 (sdQ Q a l)))),true⟩] (.c (.one (.v (.int .i64 (sdE Q a))))) ((runFn (⟨Try.prog,[(14,ctrF Id' C_rcopyB hardD)],[],dkHo,Id'.one,60⟩:Sy Td) [] Try.f17 [.one (.ptr 0 0),.agg [.v (.int .i64 a),.obj 1]] [⟨.bx [.obj 2],true⟩,⟨.us (.byt l),false⟩,⟨.us (.ext (.tab (.wq 39 Q))),true⟩]).al [false,true])=some qs∧∀ q∈qs,q:=
 ⟨[(decide (a<(0:Int))||decide (a>(8:Int)))=false,decide ((↑(TB.wq 39 Q).n:Int)≥(256:Int))=true,(Th.byt l:Td)=Th.byt l,(Th.ext (Dk.tab (TB.wq 39 Q)):Td)=Th.ext (Dk.tab (TB.wq 39 (sdQ Q a l))),Value.int IntKind.i64 (Int.ofNat 8)=Value.int IntKind.i64 (sdE Q a)],by kernel_rfl,(by refine mcons ?_ (mcons ?_ (mcons ?_ (mcons ?_ (mcons ?_ mnil))))<;>first|rfl|exact h0|exact h1|trivial|(exact h3)|(exact h2)|(simp only [sdQ,sdE,h0,h1,cond_true,cond_false];done)|(simp only [sdQ,sdE,h0,h1,cond_true,cond_false];rfl)|(simp [sdQ,sdE,h0,h1];done)|(simp only [sdQ,sdE,h0,cond_true,cond_false];done)|(simp only [sdQ,sdE,h0,cond_true,cond_false];rfl)|(simp [sdQ,sdE,h0];done)|(simp [sdQ,sdE,h0];done)|(simp [sdQ,sdE,h0,h1];done))⟩
set_option maxRecDepth 100000 in
theorem rsend_w2 (Q:List (Int×List UInt8)) (a:Int) (l:List UInt8) (h0:(decide (a<0)||decide (a>8))=false) (h1:decide ((Q.length:Int)≥256)=false) (h2:l.length≤1000000) (h3:Q.length+1≤100000):∃ qs,wayO Id' ([⟨.bx [.obj 2],true⟩,⟨.us (.byt l),false⟩,⟨.us (.ext (.tab (.wq 39 Q))),true⟩]:Mem Td).length [⟨.bx [.obj 3],true⟩,⟨.us (.byt l),false⟩,⟨.dead,true⟩,⟨.us (.ext (.tab (.wq 39 (sdQ Q a l)))),true⟩] (.c (.one (.v (.int .i64 (sdE Q a))))) ((runFn (⟨Try.prog,[(14,ctrF Id' C_rcopyB hardD)],[],dkHo,Id'.one,60⟩:Sy Td) [] Try.f17 [.one (.ptr 0 0),.agg [.v (.int .i64 a),.obj 1]] [⟨.bx [.obj 2],true⟩,⟨.us (.byt l),false⟩,⟨.us (.ext (.tab (.wq 39 Q))),true⟩]).al [false,false])=some qs∧∀ q∈qs,q:=
 ⟨[(decide (a<(0:Int))||decide (a>(8:Int)))=false,decide ((↑(TB.wq 39 Q).n:Int)≥(256:Int))=false,(TB.wq 39 Q).n+(TB.wq 39 [(a,l)]).n≤(100000:Nat),l.length≤(1000000:Nat),(Th.byt l:Td)=Th.byt l,(Th.ext (Dk.tab (TB.wq 39 (Q++[(a,l)]))):Td)=Th.ext (Dk.tab (TB.wq 39 (sdQ Q a l))),Value.int IntKind.i64 (Int.ofNat 0)=Value.int IntKind.i64 (sdE Q a)],by kernel_rfl,(by refine mcons ?_ (mcons ?_ (mcons ?_ (mcons ?_ (mcons ?_ (mcons ?_ (mcons ?_ mnil))))))<;>first|rfl|exact h0|exact h1|exact h2|exact h3|trivial|(exact h3)|(exact h2)|(simp only [sdQ,sdE,h0,h1,cond_true,cond_false];done)|(simp only [sdQ,sdE,h0,h1,cond_true,cond_false];rfl)|(simp [sdQ,sdE,h0,h1];done)|(simp only [sdQ,sdE,h0,cond_true,cond_false];done)|(simp only [sdQ,sdE,h0,cond_true,cond_false];rfl)|(simp [sdQ,sdE,h0];done)|(simp [sdQ,sdE,h0];done)|(simp [sdQ,sdE,h0,h1];done))⟩
def C_rsend:Ctr Td:=fun us sub=>match us,sub with
 |[.one (.ptr 0 0),.agg [.v (.int .i64 a),.obj 1]],[⟨.bx [.obj 2],true⟩,⟨.us (.byt l),false⟩,⟨.us (.ext (.tab (.wq 39 Q))),true⟩]=>some ([l.length≤1000000,Q.length+1≤100000],.c (.one (.v (.int .i64 (sdE Q a)))),[⟨.bx [.obj 3],true⟩,⟨.us (.byt l),false⟩,⟨.dead,true⟩,⟨.us (.ext (.tab (.wq 39 (sdQ Q a l)))),true⟩])
 |_,_=>none
set_option maxRecDepth 100000 in
theorem C_rsend_ok:CtrOk Try.prog Id' 17 C_rsend:=by
 intro us sub ps x sm h hp w e vs hM ha
 unfold C_rsend at h
 split at h
 ·rename_i a l Q
  simp only [Option.some.injEq,Prod.mk.injEq] at h
  obtain ⟨rfl,rfl,rfl⟩:=h
  have h2:=hp _ (List.mem_cons_self ..)
  have h3:=hp _ (List.mem_cons_of_mem _ (List.mem_cons_self ..))
  cases h0:(decide (a<0)||decide (a>8)) with
  |true=>exact ctr_way (I:=Id') (fun (W0:World) (G:Nat→Prop)=>SyOk.mk2 Try.mixed dkHo_ok (FnsR.cons (R_rcopyB) (FnsR.nil)) EqsOk.nil) rfl Try.func17 (by kernel_rfl) (fun W0 G=>LpsOk.nil _) (cs:=[true]) (by kernel_rfl) (rsend_w0 Q a l h0) w e vs hM ha
  |false=>
   cases h1:decide ((Q.length:Int)≥256) with
   |true=>exact ctr_way (I:=Id') (fun (W0:World) (G:Nat→Prop)=>SyOk.mk2 Try.mixed dkHo_ok (FnsR.cons (R_rcopyB) (FnsR.nil)) EqsOk.nil) rfl Try.func17 (by kernel_rfl) (fun W0 G=>LpsOk.nil _) (cs:=[false,true]) (by kernel_rfl) (rsend_w1 Q a l h0 h1) w e vs hM ha
   |false=>exact ctr_way (I:=Id') (fun (W0:World) (G:Nat→Prop)=>SyOk.mk2 Try.mixed dkHo_ok (FnsR.cons (R_rcopyB) (FnsR.nil)) EqsOk.nil) rfl Try.func17 (by kernel_rfl) (fun W0 G=>LpsOk.nil _) (cs:=[false,false]) (by kernel_rfl) (rsend_w2 Q a l h0 h1 h2 h3) w e vs hM ha
 ·cases h
theorem R_rsend:RowOk Try.prog Id' hardD 17 (ctrF Id' C_rsend hardD):=ctrF_ok Try.call17 C_rsend_ok
set_option maxRecDepth 100000 in
theorem rsendO_w0 (Q:List (Int×List UInt8)) (a:Int) (l:List UInt8) (h0:(decide (a<0)||decide (a>8))=true):∃ qs,wayO Id' ([⟨.bx [.obj 2],true⟩,⟨.us (.own l),true⟩,⟨.us (.ext (.tab (.wq 39 Q))),true⟩]:Mem Td).length [⟨.bx [.obj 3],true⟩,⟨.us (.own l),true⟩,⟨.dead,true⟩,⟨.us (.ext (.tab (.wq 39 (sdQ Q a l)))),true⟩] (.c (.one (.v (.int .i64 (sdE Q a))))) ((runFn (⟨Try.prog,[(14,ctrF Id' C_rcopyBO hardD)],[],dkHo,Id'.one,60⟩:Sy Td) [] Try.f17 [.one (.ptr 0 0),.agg [.v (.int .i64 a),.obj 1]] [⟨.bx [.obj 2],true⟩,⟨.us (.own l),true⟩,⟨.us (.ext (.tab (.wq 39 Q))),true⟩]).al [true])=some qs∧∀ q∈qs,q:=
 ⟨[(decide (a<(0:Int))||decide (a>(8:Int)))=true,(Th.own l:Td)=Th.own l,(Th.ext (Dk.tab (TB.wq 39 Q)):Td)=Th.ext (Dk.tab (TB.wq 39 (sdQ Q a l))),Value.int IntKind.i64 (Int.ofNat 2)=Value.int IntKind.i64 (sdE Q a)],by kernel_rfl,(by refine mcons ?_ (mcons ?_ (mcons ?_ (mcons ?_ mnil)))<;>first|rfl|exact h0|trivial|(exact h3)|(exact h2)|(simp only [sdQ,sdE,h0,h1,cond_true,cond_false];done)|(simp only [sdQ,sdE,h0,h1,cond_true,cond_false];rfl)|(simp [sdQ,sdE,h0,h1];done)|(simp only [sdQ,sdE,h0,cond_true,cond_false];done)|(simp only [sdQ,sdE,h0,cond_true,cond_false];rfl)|(simp [sdQ,sdE,h0];done)|(simp [sdQ,sdE,h0];done)|(simp [sdQ,sdE,h0,h1];done))⟩
set_option maxRecDepth 100000 in
theorem rsendO_w1 (Q:List (Int×List UInt8)) (a:Int) (l:List UInt8) (h0:(decide (a<0)||decide (a>8))=false) (h1:decide ((Q.length:Int)≥256)=true):∃ qs,wayO Id' ([⟨.bx [.obj 2],true⟩,⟨.us (.own l),true⟩,⟨.us (.ext (.tab (.wq 39 Q))),true⟩]:Mem Td).length [⟨.bx [.obj 3],true⟩,⟨.us (.own l),true⟩,⟨.dead,true⟩,⟨.us (.ext (.tab (.wq 39 (sdQ Q a l)))),true⟩] (.c (.one (.v (.int .i64 (sdE Q a))))) ((runFn (⟨Try.prog,[(14,ctrF Id' C_rcopyBO hardD)],[],dkHo,Id'.one,60⟩:Sy Td) [] Try.f17 [.one (.ptr 0 0),.agg [.v (.int .i64 a),.obj 1]] [⟨.bx [.obj 2],true⟩,⟨.us (.own l),true⟩,⟨.us (.ext (.tab (.wq 39 Q))),true⟩]).al [false,true])=some qs∧∀ q∈qs,q:=
 ⟨[(decide (a<(0:Int))||decide (a>(8:Int)))=false,decide ((↑(TB.wq 39 Q).n:Int)≥(256:Int))=true,(Th.own l:Td)=Th.own l,(Th.ext (Dk.tab (TB.wq 39 Q)):Td)=Th.ext (Dk.tab (TB.wq 39 (sdQ Q a l))),Value.int IntKind.i64 (Int.ofNat 8)=Value.int IntKind.i64 (sdE Q a)],by kernel_rfl,(by refine mcons ?_ (mcons ?_ (mcons ?_ (mcons ?_ (mcons ?_ mnil))))<;>first|rfl|exact h0|exact h1|trivial|(exact h3)|(exact h2)|(simp only [sdQ,sdE,h0,h1,cond_true,cond_false];done)|(simp only [sdQ,sdE,h0,h1,cond_true,cond_false];rfl)|(simp [sdQ,sdE,h0,h1];done)|(simp only [sdQ,sdE,h0,cond_true,cond_false];done)|(simp only [sdQ,sdE,h0,cond_true,cond_false];rfl)|(simp [sdQ,sdE,h0];done)|(simp [sdQ,sdE,h0];done)|(simp [sdQ,sdE,h0,h1];done))⟩
set_option maxRecDepth 100000 in
theorem rsendO_w2 (Q:List (Int×List UInt8)) (a:Int) (l:List UInt8) (h0:(decide (a<0)||decide (a>8))=false) (h1:decide ((Q.length:Int)≥256)=false) (h2:l.length≤1000000) (h3:Q.length+1≤100000):∃ qs,wayO Id' ([⟨.bx [.obj 2],true⟩,⟨.us (.own l),true⟩,⟨.us (.ext (.tab (.wq 39 Q))),true⟩]:Mem Td).length [⟨.bx [.obj 3],true⟩,⟨.us (.own l),true⟩,⟨.dead,true⟩,⟨.us (.ext (.tab (.wq 39 (sdQ Q a l)))),true⟩] (.c (.one (.v (.int .i64 (sdE Q a))))) ((runFn (⟨Try.prog,[(14,ctrF Id' C_rcopyBO hardD)],[],dkHo,Id'.one,60⟩:Sy Td) [] Try.f17 [.one (.ptr 0 0),.agg [.v (.int .i64 a),.obj 1]] [⟨.bx [.obj 2],true⟩,⟨.us (.own l),true⟩,⟨.us (.ext (.tab (.wq 39 Q))),true⟩]).al [false,false])=some qs∧∀ q∈qs,q:=
 ⟨[(decide (a<(0:Int))||decide (a>(8:Int)))=false,decide ((↑(TB.wq 39 Q).n:Int)≥(256:Int))=false,(TB.wq 39 Q).n+(TB.wq 39 [(a,l)]).n≤(100000:Nat),l.length≤(1000000:Nat),(En.mk (Ob.us (Th.own l)) true:En Td)=En.mk (Ob.us (Th.own l)) true,(Th.own l:Td)=Th.own l,(Th.ext (Dk.tab (TB.wq 39 (Q++[(a,l)]))):Td)=Th.ext (Dk.tab (TB.wq 39 (sdQ Q a l))),Value.int IntKind.i64 (Int.ofNat 0)=Value.int IntKind.i64 (sdE Q a)],by kernel_rfl,(by refine mcons ?_ (mcons ?_ (mcons ?_ (mcons ?_ (mcons ?_ (mcons ?_ (mcons ?_ (mcons ?_ mnil)))))))<;>first|rfl|exact h0|exact h1|exact h2|exact h3|trivial|(exact h3)|(exact h2)|(simp only [sdQ,sdE,h0,h1,cond_true,cond_false];done)|(simp only [sdQ,sdE,h0,h1,cond_true,cond_false];rfl)|(simp [sdQ,sdE,h0,h1];done)|(simp only [sdQ,sdE,h0,cond_true,cond_false];done)|(simp only [sdQ,sdE,h0,cond_true,cond_false];rfl)|(simp [sdQ,sdE,h0];done)|(simp [sdQ,sdE,h0];done)|(simp [sdQ,sdE,h0,h1];done))⟩
def C_rsendO:Ctr Td:=fun us sub=>match us,sub with
 |[.one (.ptr 0 0),.agg [.v (.int .i64 a),.obj 1]],[⟨.bx [.obj 2],true⟩,⟨.us (.own l),true⟩,⟨.us (.ext (.tab (.wq 39 Q))),true⟩]=>some ([l.length≤1000000,Q.length+1≤100000],.c (.one (.v (.int .i64 (sdE Q a)))),[⟨.bx [.obj 3],true⟩,⟨.us (.own l),true⟩,⟨.dead,true⟩,⟨.us (.ext (.tab (.wq 39 (sdQ Q a l)))),true⟩])
 |_,_=>none
set_option maxRecDepth 100000 in
theorem C_rsendO_ok:CtrOk Try.prog Id' 17 C_rsendO:=by
 intro us sub ps x sm h hp w e vs hM ha
 unfold C_rsendO at h
 split at h
 ·rename_i a l Q
  simp only [Option.some.injEq,Prod.mk.injEq] at h
  obtain ⟨rfl,rfl,rfl⟩:=h
  have h2:=hp _ (List.mem_cons_self ..)
  have h3:=hp _ (List.mem_cons_of_mem _ (List.mem_cons_self ..))
  cases h0:(decide (a<0)||decide (a>8)) with
  |true=>exact ctr_way (I:=Id') (fun (W0:World) (G:Nat→Prop)=>SyOk.mk2 Try.mixed dkHo_ok (FnsR.cons (R_rcopyBO) (FnsR.nil)) EqsOk.nil) rfl Try.func17 (by kernel_rfl) (fun W0 G=>LpsOk.nil _) (cs:=[true]) (by kernel_rfl) (rsendO_w0 Q a l h0) w e vs hM ha
  |false=>
   cases h1:decide ((Q.length:Int)≥256) with
   |true=>exact ctr_way (I:=Id') (fun (W0:World) (G:Nat→Prop)=>SyOk.mk2 Try.mixed dkHo_ok (FnsR.cons (R_rcopyBO) (FnsR.nil)) EqsOk.nil) rfl Try.func17 (by kernel_rfl) (fun W0 G=>LpsOk.nil _) (cs:=[false,true]) (by kernel_rfl) (rsendO_w1 Q a l h0 h1) w e vs hM ha
   |false=>exact ctr_way (I:=Id') (fun (W0:World) (G:Nat→Prop)=>SyOk.mk2 Try.mixed dkHo_ok (FnsR.cons (R_rcopyBO) (FnsR.nil)) EqsOk.nil) rfl Try.func17 (by kernel_rfl) (fun W0 G=>LpsOk.nil _) (cs:=[false,false]) (by kernel_rfl) (rsendO_w2 Q a l h0 h1 h2 h3) w e vs hM ha
 ·cases h
theorem R_rsendO:RowOk Try.prog Id' hardD 17 (ctrF Id' C_rsendO hardD):=ctrF_ok Try.call17 C_rsendO_ok
set_option maxRecDepth 100000 in
theorem nsendO_w0 (Q:List (Int×List UInt8)) (a:Int) (l:List UInt8) (h0:(decide (a<0)||decide (a>8))=true):∃ qs,wayO Id' ([⟨.bx [.obj 2],true⟩,⟨.us (.own l),true⟩,⟨.us (.ext (.tab (.wq 37 Q))),true⟩]:Mem Td).length [⟨.bx [.obj 3],true⟩,⟨.us (.own l),true⟩,⟨.dead,true⟩,⟨.us (.ext (.tab (.wq 37 (sdQ Q a l)))),true⟩] (.c (.one (.v (.int .i64 (sdE Q a))))) ((runFn (⟨Try.prog,[(93,ctrF Id' C_cpdBO hardD)],[],dkHo,Id'.one,60⟩:Sy Td) [(100007,mapG (modAt toBk 0) (⟨Try.prog,[(93,ctrF Id' C_cpdBO hardD)],[],dkHo,Id'.one,60⟩:Sy Td) 35 (regO 7 (bodyOf Try.f16)) (drwR 7 (bodyOf Try.f16))),(100008,mapG (modAt toBx 0) (⟨Try.prog,[(93,ctrF Id' C_cpdBO hardD)],[],dkHo,Id'.one,60⟩:Sy Td) 35 (regO 8 (bodyOf Try.f16)) (drwR 8 (bodyOf Try.f16)))] Try.f16 [.one (.ptr 0 0),.agg [.v (.int .i64 a),.obj 1]] [⟨.bx [.obj 2],true⟩,⟨.us (.own l),true⟩,⟨.us (.ext (.tab (.wq 37 Q))),true⟩]).al [true])=some qs∧∀ q∈qs,q:=
 ⟨[(decide (a<(0:Int))||decide (a>(8:Int)))=true,(Th.own l:Td)=Th.own l,(Th.ext (Dk.tab (TB.wq 37 Q)):Td)=Th.ext (Dk.tab (TB.wq 37 (sdQ Q a l))),Value.int IntKind.i64 (Int.ofNat 2)=Value.int IntKind.i64 (sdE Q a)],by kernel_rfl,(by refine mcons ?_ (mcons ?_ (mcons ?_ (mcons ?_ mnil)))<;>first|rfl|exact h0|trivial|(exact h3)|(exact h2)|(simp only [sdQ,sdE,h0,h1,cond_true,cond_false];done)|(simp only [sdQ,sdE,h0,h1,cond_true,cond_false];rfl)|(simp [sdQ,sdE,h0,h1];done)|(simp only [sdQ,sdE,h0,cond_true,cond_false];done)|(simp only [sdQ,sdE,h0,cond_true,cond_false];rfl)|(simp [sdQ,sdE,h0];done)|(simp [sdQ,sdE,h0];done)|(simp [sdQ,sdE,h0,h1];done))⟩
set_option maxRecDepth 100000 in
theorem nsendO_w1 (Q:List (Int×List UInt8)) (a:Int) (l:List UInt8) (h0:(decide (a<0)||decide (a>8))=false) (h1:decide ((Q.length:Int)≥256)=true):∃ qs,wayO Id' ([⟨.bx [.obj 2],true⟩,⟨.us (.own l),true⟩,⟨.us (.ext (.tab (.wq 37 Q))),true⟩]:Mem Td).length [⟨.bx [.obj 3],true⟩,⟨.us (.own l),true⟩,⟨.dead,true⟩,⟨.us (.ext (.tab (.wq 37 (sdQ Q a l)))),true⟩] (.c (.one (.v (.int .i64 (sdE Q a))))) ((runFn (⟨Try.prog,[(93,ctrF Id' C_cpdBO hardD)],[],dkHo,Id'.one,60⟩:Sy Td) [(100007,mapG (modAt toBk 0) (⟨Try.prog,[(93,ctrF Id' C_cpdBO hardD)],[],dkHo,Id'.one,60⟩:Sy Td) 35 (regO 7 (bodyOf Try.f16)) (drwR 7 (bodyOf Try.f16))),(100008,mapG (modAt toBx 0) (⟨Try.prog,[(93,ctrF Id' C_cpdBO hardD)],[],dkHo,Id'.one,60⟩:Sy Td) 35 (regO 8 (bodyOf Try.f16)) (drwR 8 (bodyOf Try.f16)))] Try.f16 [.one (.ptr 0 0),.agg [.v (.int .i64 a),.obj 1]] [⟨.bx [.obj 2],true⟩,⟨.us (.own l),true⟩,⟨.us (.ext (.tab (.wq 37 Q))),true⟩]).al [false,true])=some qs∧∀ q∈qs,q:=
 ⟨[(decide (a<(0:Int))||decide (a>(8:Int)))=false,decide ((↑(TB.wq 37 Q).n:Int)≥(256:Int))=true,(Th.own l:Td)=Th.own l,(Th.ext (Dk.tab (TB.wq 37 Q)):Td)=Th.ext (Dk.tab (TB.wq 37 (sdQ Q a l))),Value.int IntKind.i64 (Int.ofNat 8)=Value.int IntKind.i64 (sdE Q a)],by kernel_rfl,(by refine mcons ?_ (mcons ?_ (mcons ?_ (mcons ?_ (mcons ?_ mnil))))<;>first|rfl|exact h0|exact h1|trivial|(exact h3)|(exact h2)|(simp only [sdQ,sdE,h0,h1,cond_true,cond_false];done)|(simp only [sdQ,sdE,h0,h1,cond_true,cond_false];rfl)|(simp [sdQ,sdE,h0,h1];done)|(simp only [sdQ,sdE,h0,cond_true,cond_false];done)|(simp only [sdQ,sdE,h0,cond_true,cond_false];rfl)|(simp [sdQ,sdE,h0];done)|(simp [sdQ,sdE,h0];done)|(simp [sdQ,sdE,h0,h1];done))⟩
set_option maxRecDepth 100000 in
theorem nsendO_w2 (Q:List (Int×List UInt8)) (a:Int) (l:List UInt8) (h0:(decide (a<0)||decide (a>8))=false) (h1:decide ((Q.length:Int)≥256)=false) (h2:l.length≤1000000) (h3:Q.length+1≤100000):∃ qs,wayO Id' ([⟨.bx [.obj 2],true⟩,⟨.us (.own l),true⟩,⟨.us (.ext (.tab (.wq 37 Q))),true⟩]:Mem Td).length [⟨.bx [.obj 3],true⟩,⟨.us (.own l),true⟩,⟨.dead,true⟩,⟨.us (.ext (.tab (.wq 37 (sdQ Q a l)))),true⟩] (.c (.one (.v (.int .i64 (sdE Q a))))) ((runFn (⟨Try.prog,[(93,ctrF Id' C_cpdBO hardD)],[],dkHo,Id'.one,60⟩:Sy Td) [(100007,mapG (modAt toBk 0) (⟨Try.prog,[(93,ctrF Id' C_cpdBO hardD)],[],dkHo,Id'.one,60⟩:Sy Td) 35 (regO 7 (bodyOf Try.f16)) (drwR 7 (bodyOf Try.f16))),(100008,mapG (modAt toBx 0) (⟨Try.prog,[(93,ctrF Id' C_cpdBO hardD)],[],dkHo,Id'.one,60⟩:Sy Td) 35 (regO 8 (bodyOf Try.f16)) (drwR 8 (bodyOf Try.f16)))] Try.f16 [.one (.ptr 0 0),.agg [.v (.int .i64 a),.obj 1]] [⟨.bx [.obj 2],true⟩,⟨.us (.own l),true⟩,⟨.us (.ext (.tab (.wq 37 Q))),true⟩]).al [false,false])=some qs∧∀ q∈qs,q:=
 ⟨[(decide (a<(0:Int))||decide (a>(8:Int)))=false,decide ((↑(TB.wq 37 Q).n:Int)≥(256:Int))=false,(TB.wq 37 Q).n+(TB.wq 37 [(a,l)]).n≤(100000:Nat),l.length≤(1000000:Nat),(En.mk (Ob.us (Th.own l)) true:En Td)=En.mk (Ob.us (Th.own l)) true,(Th.own l:Td)=Th.own l,(Th.ext (Dk.tab (TB.wq 37 (Q++[(a,l)]))):Td)=Th.ext (Dk.tab (TB.wq 37 (sdQ Q a l))),Value.int IntKind.i64 (Int.ofNat 0)=Value.int IntKind.i64 (sdE Q a)],by kernel_rfl,(by refine mcons ?_ (mcons ?_ (mcons ?_ (mcons ?_ (mcons ?_ (mcons ?_ (mcons ?_ (mcons ?_ mnil)))))))<;>first|rfl|exact h0|exact h1|exact h2|exact h3|trivial|(exact h3)|(exact h2)|(simp only [sdQ,sdE,h0,h1,cond_true,cond_false];done)|(simp only [sdQ,sdE,h0,h1,cond_true,cond_false];rfl)|(simp [sdQ,sdE,h0,h1];done)|(simp only [sdQ,sdE,h0,cond_true,cond_false];done)|(simp only [sdQ,sdE,h0,cond_true,cond_false];rfl)|(simp [sdQ,sdE,h0];done)|(simp [sdQ,sdE,h0];done)|(simp [sdQ,sdE,h0,h1];done))⟩
def C_nsendO:Ctr Td:=fun us sub=>match us,sub with
 |[.one (.ptr 0 0),.agg [.v (.int .i64 a),.obj 1]],[⟨.bx [.obj 2],true⟩,⟨.us (.own l),true⟩,⟨.us (.ext (.tab (.wq 37 Q))),true⟩]=>some ([l.length≤1000000,Q.length+1≤100000],.c (.one (.v (.int .i64 (sdE Q a)))),[⟨.bx [.obj 3],true⟩,⟨.us (.own l),true⟩,⟨.dead,true⟩,⟨.us (.ext (.tab (.wq 37 (sdQ Q a l)))),true⟩])
 |_,_=>none
set_option maxRecDepth 100000 in
theorem C_nsendO_ok:CtrOk Try.prog Id' 16 C_nsendO:=by
 intro us sub ps x sm h hp w e vs hM ha
 unfold C_nsendO at h
 split at h
 ·rename_i a l Q
  simp only [Option.some.injEq,Prod.mk.injEq] at h
  obtain ⟨rfl,rfl,rfl⟩:=h
  have h2:=hp _ (List.mem_cons_self ..)
  have h3:=hp _ (List.mem_cons_of_mem _ (List.mem_cons_self ..))
  cases h0:(decide (a<0)||decide (a>8)) with
  |true=>exact ctr_way (I:=Id') (fun (W0:World) (G:Nat→Prop)=>SyOk.mk2 Try.mixed dkHo_ok (FnsR.cons (R_cpdBO) (FnsR.nil)) EqsOk.nil) rfl Try.func16 (by kernel_rfl) (fun W0 G=>LpsOk.cons (by kernel_rfl) (mapG_sound (id:=7) ((fun (W0:World) (G:Nat→Prop)=>SyOk.mk2 Try.mixed dkHo_ok (FnsR.cons (R_cpdBO) (FnsR.nil)) EqsOk.nil) W0 G) rfl (fun w e mem h=>bk_ok (W0:=W0) (G:=G) 0 w e mem h)) (LpsOk.cons (by kernel_rfl) (mapG_sound (id:=8) ((fun (W0:World) (G:Nat→Prop)=>SyOk.mk2 Try.mixed dkHo_ok (FnsR.cons (R_cpdBO) (FnsR.nil)) EqsOk.nil) W0 G) rfl (fun w e mem h=>bx_ok (W0:=W0) (G:=G) 0 w e mem h)) (LpsOk.nil _))) (cs:=[true]) (by kernel_rfl) (nsendO_w0 Q a l h0) w e vs hM ha
  |false=>
   cases h1:decide ((Q.length:Int)≥256) with
   |true=>exact ctr_way (I:=Id') (fun (W0:World) (G:Nat→Prop)=>SyOk.mk2 Try.mixed dkHo_ok (FnsR.cons (R_cpdBO) (FnsR.nil)) EqsOk.nil) rfl Try.func16 (by kernel_rfl) (fun W0 G=>LpsOk.cons (by kernel_rfl) (mapG_sound (id:=7) ((fun (W0:World) (G:Nat→Prop)=>SyOk.mk2 Try.mixed dkHo_ok (FnsR.cons (R_cpdBO) (FnsR.nil)) EqsOk.nil) W0 G) rfl (fun w e mem h=>bk_ok (W0:=W0) (G:=G) 0 w e mem h)) (LpsOk.cons (by kernel_rfl) (mapG_sound (id:=8) ((fun (W0:World) (G:Nat→Prop)=>SyOk.mk2 Try.mixed dkHo_ok (FnsR.cons (R_cpdBO) (FnsR.nil)) EqsOk.nil) W0 G) rfl (fun w e mem h=>bx_ok (W0:=W0) (G:=G) 0 w e mem h)) (LpsOk.nil _))) (cs:=[false,true]) (by kernel_rfl) (nsendO_w1 Q a l h0 h1) w e vs hM ha
   |false=>exact ctr_way (I:=Id') (fun (W0:World) (G:Nat→Prop)=>SyOk.mk2 Try.mixed dkHo_ok (FnsR.cons (R_cpdBO) (FnsR.nil)) EqsOk.nil) rfl Try.func16 (by kernel_rfl) (fun W0 G=>LpsOk.cons (by kernel_rfl) (mapG_sound (id:=7) ((fun (W0:World) (G:Nat→Prop)=>SyOk.mk2 Try.mixed dkHo_ok (FnsR.cons (R_cpdBO) (FnsR.nil)) EqsOk.nil) W0 G) rfl (fun w e mem h=>bk_ok (W0:=W0) (G:=G) 0 w e mem h)) (LpsOk.cons (by kernel_rfl) (mapG_sound (id:=8) ((fun (W0:World) (G:Nat→Prop)=>SyOk.mk2 Try.mixed dkHo_ok (FnsR.cons (R_cpdBO) (FnsR.nil)) EqsOk.nil) W0 G) rfl (fun w e mem h=>bx_ok (W0:=W0) (G:=G) 0 w e mem h)) (LpsOk.nil _))) (cs:=[false,false]) (by kernel_rfl) (nsendO_w2 Q a l h0 h1 h2 h3) w e vs hM ha
 ·cases h
theorem R_nsendO:RowOk Try.prog Id' hardD 16 (ctrF Id' C_nsendO hardD):=ctrF_ok Try.call16 C_nsendO_ok
end Go.Proofs.Ytdenmoiaiemokaa
set_option linter.unusedVariables false
set_option linter.unusedSimpArgs false
namespace Go.Proofs.Ytdenmoiaiemokaa
open Go.RowKit
theorem nil_tabP {t:TypeId} {X:List (Int×List UInt8)} (h:X=[]):∀ w,Id'.holds (Th.ext (Dk.tab (.wq t X)):Td) w nilV∧∀ j,¬ Id'.foot (Th.ext (Dk.tab (.wq t X)):Td) w nilV j:=by
 subst h
 refine fun w=>⟨⟨(fun r hr=>by cases hr),(fun r hr=>by cases hr),[],rfl,⟨0,Nat.zero_le _,owns_nilV w 0 _ _⟩,fun i v r hv _=>by cases hv⟩,fun j h=>?_⟩
 rcases h with h|⟨i,r,v,h,_⟩
 ·cases h
 ·cases h
set_option maxRecDepth 100000 in
theorem rat_w0 (Q:List (Int×List UInt8)) (i:Int) (h0:0≤i∧i.toNat<Q.length) (h1:(decide (i<0)||decide (i≥(Q.length:Int)))=false):∃ qs,wayO Id' ([⟨.bx [.obj 1],true⟩,⟨.us (.ext (.tab (.wq 39 Q))),true⟩]:Mem Td).length [⟨.bx [.obj 1],true⟩,⟨.us (.ext (.tab (.wq 39 Q))),true⟩,⟨.us (.byt ((Q.getD i.toNat (0,[])).2)),false⟩] (.tup [.agg [.v (.int .i64 ((Q.getD i.toNat (0,[])).1)),.obj 2],.one (.v (.int .i64 0))]) ((runFn (⟨Try.prog,[],[],dkHo,Id'.one,60⟩:Sy Td) [] Try.f19 [.one (.ptr 0 0),.one (.v (.int .i64 i))] [⟨.bx [.obj 1],true⟩,⟨.us (.ext (.tab (.wq 39 Q))),true⟩]).al [false])=some qs∧∀ q∈qs,q:=
 ⟨[(decide (i<(0:Int))||decide (i≥(↑(TB.wq 39 Q).n:Int)))=false,(0:Int)≤i∧i.toNat<(TB.wq 39 Q).n,(Th.ext (Dk.tab (TB.wq 39 Q)):Td)=Th.ext (Dk.tab (TB.wq 39 Q)),(Th.byt (Q.getD i.toNat ((0:Int),[])).2:Td)=Th.byt (Q.getD i.toNat ((0:Int),[])).2,Value.int IntKind.i64 ((TB.wq 39 Q).int i)=Value.int IntKind.i64 (Q.getD i.toNat ((0:Int),[])).fst,Value.int IntKind.i64 (Int.ofNat 0)=Value.int IntKind.i64 (Int.ofNat 0)],by kernel_rfl,(by refine mcons ?_ (mcons ?_ (mcons ?_ (mcons ?_ (mcons ?_ (mcons ?_ mnil)))))<;>first|rfl|exact h0|exact h1|trivial|(exact h0)|(exact h1)|(exact h2)|(exact h3))⟩
def C_rat:Ctr Td:=fun us sub=>match us,sub with
 |[.one (.ptr 0 0),.one (.v (.int .i64 i))],[⟨.bx [.obj 1],true⟩,⟨.us (.ext (.tab (.wq 39 Q))),true⟩]=>some ([0≤i∧i.toNat<Q.length,(decide (i<0)||decide (i≥(Q.length:Int)))=false],.tup [.agg [.v (.int .i64 ((Q.getD i.toNat (0,[])).1)),.obj 2],.one (.v (.int .i64 0))],[⟨.bx [.obj 1],true⟩,⟨.us (.ext (.tab (.wq 39 Q))),true⟩,⟨.us (.byt ((Q.getD i.toNat (0,[])).2)),false⟩])
 |_,_=>none
set_option maxRecDepth 100000 in
theorem C_rat_ok:CtrOk Try.prog Id' 19 C_rat:=by
 intro us sub ps x sm h hp w e vs hM ha
 unfold C_rat at h
 split at h
 ·rename_i i Q
  simp only [Option.some.injEq,Prod.mk.injEq] at h
  obtain ⟨rfl,rfl,rfl⟩:=h
  have h0:=hp _ ((List.mem_cons_self ..))
  have h1:=hp _ (List.mem_cons_of_mem _ ((List.mem_cons_self ..)))
  exact ctr_way (I:=Id') (fun (W0:World) (G:Nat→Prop)=>SyOk.mk2 Try.mixed dkHo_ok (FnsR.nil) EqsOk.nil) rfl Try.func19 (by kernel_rfl) (fun W0 G=>LpsOk.nil _) (cs:=[false]) (by kernel_rfl) (rat_w0 Q i h0 h1) w e vs hM ha
 ·cases h
theorem R_rat:RowOk Try.prog Id' hardD 19 (ctrF Id' C_rat hardD):=ctrF_ok Try.call19 C_rat_ok
set_option maxRecDepth 100000 in
theorem ratN_w0 (Q:List (Int×List UInt8)) (i:Int) (h0:(decide (i<0)||decide (i≥(Q.length:Int)))=true):∃ qs,wayO Id' ([⟨.bx [.obj 1],true⟩,⟨.us (.ext (.tab (.wq 39 Q))),true⟩]:Mem Td).length [⟨.bx [.obj 1],true⟩,⟨.us (.ext (.tab (.wq 39 Q))),true⟩] (.tup [.agg [.v (.int .i64 0),.v (.slice none 0 0)],.one (.v (.int .i64 11))]) ((runFn (⟨Try.prog,[],[],dkHo,Id'.one,60⟩:Sy Td) [] Try.f19 [.one (.ptr 0 0),.one (.v (.int .i64 i))] [⟨.bx [.obj 1],true⟩,⟨.us (.ext (.tab (.wq 39 Q))),true⟩]).al [true])=some qs∧∀ q∈qs,q:=
 ⟨[(decide (i<(0:Int))||decide (i≥(↑(TB.wq 39 Q).n:Int)))=true,(Th.ext (Dk.tab (TB.wq 39 Q)):Td)=Th.ext (Dk.tab (TB.wq 39 Q)),Value.int IntKind.i64 (Int.ofNat 0)=Value.int IntKind.i64 (Int.ofNat 0),Value.slice none 0 0=Value.slice none 0 0,Value.int IntKind.i64 (Int.ofNat 11)=Value.int IntKind.i64 (Int.ofNat 11)],by kernel_rfl,(by refine mcons ?_ (mcons ?_ (mcons ?_ (mcons ?_ (mcons ?_ mnil))))<;>first|rfl|exact h0|trivial|(exact h0)|(exact h1)|(exact h2)|(exact h3))⟩
def C_ratN:Ctr Td:=fun us sub=>match us,sub with
 |[.one (.ptr 0 0),.one (.v (.int .i64 i))],[⟨.bx [.obj 1],true⟩,⟨.us (.ext (.tab (.wq 39 Q))),true⟩]=>some ([(decide (i<0)||decide (i≥(Q.length:Int)))=true],.tup [.agg [.v (.int .i64 0),.v (.slice none 0 0)],.one (.v (.int .i64 11))],[⟨.bx [.obj 1],true⟩,⟨.us (.ext (.tab (.wq 39 Q))),true⟩])
 |_,_=>none
set_option maxRecDepth 100000 in
theorem C_ratN_ok:CtrOk Try.prog Id' 19 C_ratN:=by
 intro us sub ps x sm h hp w e vs hM ha
 unfold C_ratN at h
 split at h
 ·rename_i i Q
  simp only [Option.some.injEq,Prod.mk.injEq] at h
  obtain ⟨rfl,rfl,rfl⟩:=h
  have h0:=hp _ ((List.mem_cons_self ..))
  exact ctr_way (I:=Id') (fun (W0:World) (G:Nat→Prop)=>SyOk.mk2 Try.mixed dkHo_ok (FnsR.nil) EqsOk.nil) rfl Try.func19 (by kernel_rfl) (fun W0 G=>LpsOk.nil _) (cs:=[true]) (by kernel_rfl) (ratN_w0 Q i h0) w e vs hM ha
 ·cases h
theorem R_ratN:RowOk Try.prog Id' hardD 19 (ctrF Id' C_ratN hardD):=ctrF_ok Try.call19 C_ratN_ok
set_option maxRecDepth 100000 in
theorem nat_w0 (Q:List (Int×List UInt8)) (i:Int) (h0:0≤i∧i.toNat<Q.length) (h1:(decide (i<0)||decide (i≥(Q.length:Int)))=false) (h2:(Q.getD i.toNat (0,[])).2.length≤1000000):∃ qs,wayO Id' ([⟨.bx [.obj 1],true⟩,⟨.us (.ext (.tab (.wq 37 Q))),true⟩]:Mem Td).length [⟨.bx [.obj 1],true⟩,⟨.us (.ext (.tab (.wq 37 Q))),true⟩,⟨.us (.own ((Q.getD i.toNat (0,[])).2)),true⟩] (.tup [.agg [.v (.int .i64 ((Q.getD i.toNat (0,[])).1)),.obj 2],.one (.v (.int .i64 0))]) ((runFn (⟨Try.prog,[(93,ctrF Id' C_cpd hardD)],[],dkHo,Id'.one,60⟩:Sy Td) [] Try.f18 [.one (.ptr 0 0),.one (.v (.int .i64 i))] [⟨.bx [.obj 1],true⟩,⟨.us (.ext (.tab (.wq 37 Q))),true⟩]).al [false])=some qs∧∀ q∈qs,q:=
 ⟨[(decide (i<(0:Int))||decide (i≥(↑(TB.wq 37 Q).n:Int)))=false,((TB.wq 37 Q).byt i).length≤(1000000:Nat),(0:Int)≤i∧i.toNat<(TB.wq 37 Q).n,(Th.ext (Dk.tab (TB.wq 37 Q)):Td)=Th.ext (Dk.tab (TB.wq 37 Q)),(Th.own (Q.getD i.toNat ((0:Int),[])).2:Td)=Th.own (Q.getD i.toNat ((0:Int),[])).2,Value.int IntKind.i64 ((TB.wq 37 Q).int i)=Value.int IntKind.i64 (Q.getD i.toNat ((0:Int),[])).fst,Value.int IntKind.i64 (Int.ofNat 0)=Value.int IntKind.i64 (Int.ofNat 0)],by kernel_rfl,(by refine mcons ?_ (mcons ?_ (mcons ?_ (mcons ?_ (mcons ?_ (mcons ?_ (mcons ?_ mnil))))))<;>first|rfl|exact h0|exact h1|exact h2|trivial|(exact h0)|(exact h1)|(exact h2)|(exact h3))⟩
def C_nat:Ctr Td:=fun us sub=>match us,sub with
 |[.one (.ptr 0 0),.one (.v (.int .i64 i))],[⟨.bx [.obj 1],true⟩,⟨.us (.ext (.tab (.wq 37 Q))),true⟩]=>some ([0≤i∧i.toNat<Q.length,(decide (i<0)||decide (i≥(Q.length:Int)))=false,(Q.getD i.toNat (0,[])).2.length≤1000000],.tup [.agg [.v (.int .i64 ((Q.getD i.toNat (0,[])).1)),.obj 2],.one (.v (.int .i64 0))],[⟨.bx [.obj 1],true⟩,⟨.us (.ext (.tab (.wq 37 Q))),true⟩,⟨.us (.own ((Q.getD i.toNat (0,[])).2)),true⟩])
 |_,_=>none
set_option maxRecDepth 100000 in
theorem C_nat_ok:CtrOk Try.prog Id' 18 C_nat:=by
 intro us sub ps x sm h hp w e vs hM ha
 unfold C_nat at h
 split at h
 ·rename_i i Q
  simp only [Option.some.injEq,Prod.mk.injEq] at h
  obtain ⟨rfl,rfl,rfl⟩:=h
  have h0:=hp _ ((List.mem_cons_self ..))
  have h1:=hp _ (List.mem_cons_of_mem _ ((List.mem_cons_self ..)))
  have h2:=hp _ (List.mem_cons_of_mem _ (List.mem_cons_of_mem _ ((List.mem_cons_self ..))))
  exact ctr_way (I:=Id') (fun (W0:World) (G:Nat→Prop)=>SyOk.mk2 Try.mixed dkHo_ok (FnsR.cons (R_cpd) (FnsR.nil)) EqsOk.nil) rfl Try.func18 (by kernel_rfl) (fun W0 G=>LpsOk.nil _) (cs:=[false]) (by kernel_rfl) (nat_w0 Q i h0 h1 h2) w e vs hM ha
 ·cases h
theorem R_nat:RowOk Try.prog Id' hardD 18 (ctrF Id' C_nat hardD):=ctrF_ok Try.call18 C_nat_ok
set_option maxRecDepth 100000 in
theorem natN_w0 (Q:List (Int×List UInt8)) (i:Int) (h0:(decide (i<0)||decide (i≥(Q.length:Int)))=true):∃ qs,wayO Id' ([⟨.bx [.obj 1],true⟩,⟨.us (.ext (.tab (.wq 37 Q))),true⟩]:Mem Td).length [⟨.bx [.obj 1],true⟩,⟨.us (.ext (.tab (.wq 37 Q))),true⟩] (.tup [.agg [.v (.int .i64 0),.v (.slice none 0 0)],.one (.v (.int .i64 11))]) ((runFn (⟨Try.prog,[(93,ctrF Id' C_cpd hardD)],[],dkHo,Id'.one,60⟩:Sy Td) [] Try.f18 [.one (.ptr 0 0),.one (.v (.int .i64 i))] [⟨.bx [.obj 1],true⟩,⟨.us (.ext (.tab (.wq 37 Q))),true⟩]).al [true])=some qs∧∀ q∈qs,q:=
 ⟨[(decide (i<(0:Int))||decide (i≥(↑(TB.wq 37 Q).n:Int)))=true,(Th.ext (Dk.tab (TB.wq 37 Q)):Td)=Th.ext (Dk.tab (TB.wq 37 Q)),Value.int IntKind.i64 (Int.ofNat 0)=Value.int IntKind.i64 (Int.ofNat 0),Value.slice none 0 0=Value.slice none 0 0,Value.int IntKind.i64 (Int.ofNat 11)=Value.int IntKind.i64 (Int.ofNat 11)],by kernel_rfl,(by refine mcons ?_ (mcons ?_ (mcons ?_ (mcons ?_ (mcons ?_ mnil))))<;>first|rfl|exact h0|trivial|(exact h0)|(exact h1)|(exact h2)|(exact h3))⟩
def C_natN:Ctr Td:=fun us sub=>match us,sub with
 |[.one (.ptr 0 0),.one (.v (.int .i64 i))],[⟨.bx [.obj 1],true⟩,⟨.us (.ext (.tab (.wq 37 Q))),true⟩]=>some ([(decide (i<0)||decide (i≥(Q.length:Int)))=true],.tup [.agg [.v (.int .i64 0),.v (.slice none 0 0)],.one (.v (.int .i64 11))],[⟨.bx [.obj 1],true⟩,⟨.us (.ext (.tab (.wq 37 Q))),true⟩])
 |_,_=>none
set_option maxRecDepth 100000 in
theorem C_natN_ok:CtrOk Try.prog Id' 18 C_natN:=by
 intro us sub ps x sm h hp w e vs hM ha
 unfold C_natN at h
 split at h
 ·rename_i i Q
  simp only [Option.some.injEq,Prod.mk.injEq] at h
  obtain ⟨rfl,rfl,rfl⟩:=h
  have h0:=hp _ ((List.mem_cons_self ..))
  exact ctr_way (I:=Id') (fun (W0:World) (G:Nat→Prop)=>SyOk.mk2 Try.mixed dkHo_ok (FnsR.cons (R_cpd) (FnsR.nil)) EqsOk.nil) rfl Try.func18 (by kernel_rfl) (fun W0 G=>LpsOk.nil _) (cs:=[true]) (by kernel_rfl) (natN_w0 Q i h0) w e vs hM ha
 ·cases h
theorem R_natN:RowOk Try.prog Id' hardD 18 (ctrF Id' C_natN hardD):=ctrF_ok Try.call18 C_natN_ok
set_option maxRecDepth 100000 in
theorem nlen_w0 (Q:List (Int×List UInt8)) :∃ qs,wayO Id' ([⟨.bx [.obj 1],true⟩,⟨.us (.ext (.tab (.wq 37 Q))),true⟩]:Mem Td).length [⟨.bx [.obj 1],true⟩,⟨.us (.ext (.tab (.wq 37 Q))),true⟩] (.c (.one (.v (.int .i64 (Q.length:Int))))) ((runFn (⟨Try.prog,[],[],dkHo,Id'.one,60⟩:Sy Td) [] Try.f27 [.one (.ptr 0 0)] [⟨.bx [.obj 1],true⟩,⟨.us (.ext (.tab (.wq 37 Q))),true⟩]).al [])=some qs∧∀ q∈qs,q:=
 ⟨[(Th.ext (Dk.tab (TB.wq 37 Q)):Td)=Th.ext (Dk.tab (TB.wq 37 Q)),Value.int IntKind.i64 (↑(TB.wq 37 Q).n:Int)=Value.int IntKind.i64 (↑Q.length:Int)],by kernel_rfl,(by refine mcons ?_ (mcons ?_ mnil)<;>first|rfl|trivial)⟩
def C_nlen:Ctr Td:=fun us sub=>match us,sub with
 |[.one (.ptr 0 0)],[⟨.bx [.obj 1],true⟩,⟨.us (.ext (.tab (.wq 37 Q))),true⟩]=>some ([],.c (.one (.v (.int .i64 (Q.length:Int)))),[⟨.bx [.obj 1],true⟩,⟨.us (.ext (.tab (.wq 37 Q))),true⟩])
 |_,_=>none
set_option maxRecDepth 100000 in
theorem C_nlen_ok:CtrOk Try.prog Id' 27 C_nlen:=by
 intro us sub ps x sm h hp w e vs hM ha
 unfold C_nlen at h
 split at h
 ·rename_i Q
  simp only [Option.some.injEq,Prod.mk.injEq] at h
  obtain ⟨rfl,rfl,rfl⟩:=h
  exact ctr_way (I:=Id') (fun (W0:World) (G:Nat→Prop)=>SyOk.mk2 Try.mixed dkHo_ok (FnsR.nil) EqsOk.nil) rfl Try.func27 (by kernel_rfl) (fun W0 G=>LpsOk.nil _) (cs:=[]) (by kernel_rfl) (nlen_w0 Q ) w e vs hM ha
 ·cases h
theorem R_nlen:RowOk Try.prog Id' hardD 27 (ctrF Id' C_nlen hardD):=ctrF_ok Try.call27 C_nlen_ok
set_option maxRecDepth 100000 in
theorem nnew_w0  :∃ qs,wayO Id' ([]:Mem Td).length [⟨.bx [.obj 1],true⟩,⟨.us (.ext (.tab (.wq 37 []))),true⟩] (.c (.one (.ptr 0 0))) ((runFn (⟨Try.prog,[],[],dkHo,Id'.one,60⟩:Sy Td) [] Try.f13 [] []).al [])=some qs∧∀ q∈qs,q:=
 ⟨[∀ (w:World),Id'.holds (Th.ext (Dk.tab (TB.wq 37 []))) w nilV∧∀ (j:Nat),¬Id'.foot (Th.ext (Dk.tab (TB.wq 37 []))) w nilV j],by kernel_rfl,(by refine mcons ?_ mnil<;>first|rfl|trivial|(exact nil_tabP rfl))⟩
def C_nnew:Ctr Td:=fun us sub=>match us,sub with
 |[],[]=>some ([],.c (.one (.ptr 0 0)),[⟨.bx [.obj 1],true⟩,⟨.us (.ext (.tab (.wq 37 []))),true⟩])
 |_,_=>none
set_option maxRecDepth 100000 in
theorem C_nnew_ok:CtrOk Try.prog Id' 13 C_nnew:=by
 intro us sub ps x sm h hp w e vs hM ha
 unfold C_nnew at h
 split at h
 ·skip
  simp only [Option.some.injEq,Prod.mk.injEq] at h
  obtain ⟨rfl,rfl,rfl⟩:=h
  exact ctr_way (I:=Id') (fun (W0:World) (G:Nat→Prop)=>SyOk.mk2 Try.mixed dkHo_ok (FnsR.nil) EqsOk.nil) rfl Try.func13 (by kernel_rfl) (fun W0 G=>LpsOk.nil _) (cs:=[]) (by kernel_rfl) (nnew_w0  ) w e vs hM ha
 ·cases h
theorem R_nnew:RowOk Try.prog Id' hardD 13 (ctrF Id' C_nnew hardD):=ctrF_ok Try.call13 C_nnew_ok
end Go.Proofs.Ytdenmoiaiemokaa
