/- Y5. -/
import Derived.Test.YtdenmoiaiemokaaY4p
import Derived.Test.YtdenmoiaiemokaaH13p
set_option linter.unusedVariables false
set_option linter.unusedSimpArgs false
namespace Go.Proofs.Ytdenmoiaiemokaa
open Go.RowKit
def othS (T:List ((Int×Int)×Int)) (a b cl md:Int) (L:List Int):Nat→List Int
 |0=>[]
 |k+1=>bif L.getD k 0 != cl&&(md==2||mdE T a b (L.getD k 0)==2) then othS T a b cl md L k++[L.getD k 0] else othS T a b cl md L k
theorem othS_len (T:List ((Int×Int)×Int)) (a b cl md:Int) (L:List Int):∀ k,(othS T a b cl md L k).length≤k
 |0=>Nat.le_refl _
 |k+1=>by
  have:=othS_len T a b cl md L k
  unfold othS
  cases L.getD k 0 != cl&&(md==2||mdE T a b (L.getD k 0)==2) with
  |true=>simp only [cond_true,List.length_append,List.length_cons,List.length_nil];omega
  |false=>simp only [cond_false];omega
theorem othS_yes (T:List ((Int×Int)×Int)) (a b cl md:Int) (L:List Int) {k:Nat} (h:(L.getD k 0 != cl&&(md==2||mdE T a b (L.getD k 0)==2))=true):othS T a b cl md L (k+1)=othS T a b cl md L k++[L.getD k 0]:=by rw [othS,h];rfl
theorem othS_no (T:List ((Int×Int)×Int)) (a b cl md:Int) (L:List Int) {k:Nat} (h:(L.getD k 0 != cl&&(md==2||mdE T a b (L.getD k 0)==2))=false):othS T a b cl md L (k+1)=othS T a b cl md L k:=by rw [othS,h];rfl
set_option maxRecDepth 100000 in
theorem oth_n1 (T:List ((Int×Int)×Int)) (a b cl md:Int) (L:List Int) (X Y:List Int) (k:Nat) (f:Nat→Value) (h0:(decide ((k:Int)<(L.length:Int)))=true) (h1:IntKind.i64.wrap ((k:Int)+1)=((k+1:Nat):Int)) (h2:k<L.length) (h3:(L.getD k 0 != cl&&(md==2||mdE T a b (L.getD k 0)==2))=true) (h4:X++[L.getD k 0]=Y) (h5:X.length≤100000):∃ qs,alN Id' 4 [(9,.c (.one (.obj 4))),(16,.c (.one (.v (.int .i64 ((k+1:Nat):Int)))))] [⟨.bx [.obj 1],true⟩,⟨.us (.ext (.mp T)),true⟩,⟨.blk [.v (.int .i64 a),.v (.int .i64 b)],true⟩,⟨.us (.ins L),true⟩,⟨.us (.ins Y),true⟩] ((symC (⟨Try.prog,[(43,ctrV C_tmd hardD)],[],dkHo,Id'.one,60⟩:Sy Td) [] 40 (hdC (loopsC (bodyOf Try.f39)) 0) ⟨[(9,.c (.one (.obj 4))),(16,.c (.one (.v (.int .i64 (k:Int)))))]++anyB' (writesC (hdC (loopsC (bodyOf Try.f39)) 0)) ([(0,.c (.one (.ptr 0 0))),(2,.c (.one (.v (.int .i64 cl)))),(3,.c (.one (.v (.int .i64 md)))),(5,.c (.one (.ptr 2 0))),(14,.c (.one (.obj 3))),(15,.c (.one (.v (.int .i64 (L.length:Int)))))]++tabV f 40),[⟨.bx [.obj 1],true⟩,⟨.us (.ext (.mp T)),true⟩,⟨.blk [.v (.int .i64 a),.v (.int .i64 b)],true⟩,⟨.us (.ins L),true⟩,⟨.us (.ins X),true⟩],0⟩).al [true,true])=some qs∧∀ q∈qs,q:=
 ⟨[decide ((↑k:Int)<(↑L.length:Int))=true,(0:Int)≤(↑k:Int)∧(↑k:Int).toNat<L.length,(L.getD (↑k:Int).toNat (0:Int) != cl&&(md==(2:Int)||mdE T a b (L.getD (↑k:Int).toNat (0:Int))==(2:Int)))=true,X.length+[L.getD (↑k:Int).toNat (0:Int)].length≤(1000000:Nat),(Th.ext (Dk.mp T):Td)=Th.ext (Dk.mp T),Value.int IntKind.i64 a=Value.int IntKind.i64 a,Value.int IntKind.i64 b=Value.int IntKind.i64 b,(Th.ins L:Td)=Th.ins L,(Th.ins (X++[L.getD k 0]):Td)=Th.ins Y,Value.int IntKind.i64 (IntKind.i64.wrap ((↑k:Int)+(1:Int)))=Value.int IntKind.i64 (↑(k+(1:Nat)):Int)],by kernel_rfl,(by refine mcons ?_ (mcons ?_ (mcons ?_ (mcons ?_ (mcons ?_ (mcons ?_ (mcons ?_ (mcons ?_ (mcons ?_ (mcons ?_ mnil)))))))))<;>first|rfl|exact h0|exact h1|exact h2|exact h3|exact h4|exact h5|trivial|(exact congrArg (fun x=>(Th.ins x:Td)) h4)|(exact congrArg (Value.int .i64) h1)|(show X.length+1≤1000000;omega)|(exact congrArg (fun x=>(Th.ins x:Td)) h1)|(exact ⟨by omega,by show (k:Int).toNat<L.length;omega⟩))⟩
set_option maxRecDepth 100000 in
theorem oth_n2 (T:List ((Int×Int)×Int)) (a b cl md:Int) (L:List Int) (X Y:List Int) (k:Nat) (f:Nat→Value) (h0:(decide ((k:Int)<(L.length:Int)))=true) (h1:IntKind.i64.wrap ((k:Int)+1)=((k+1:Nat):Int)) (h2:k<L.length) (h3:(L.getD k 0 != cl&&(md==2||mdE T a b (L.getD k 0)==2))=false) (h4:X=Y):∃ qs,alN Id' 4 [(9,.c (.one (.obj 4))),(16,.c (.one (.v (.int .i64 ((k+1:Nat):Int)))))] [⟨.bx [.obj 1],true⟩,⟨.us (.ext (.mp T)),true⟩,⟨.blk [.v (.int .i64 a),.v (.int .i64 b)],true⟩,⟨.us (.ins L),true⟩,⟨.us (.ins Y),true⟩] ((symC (⟨Try.prog,[(43,ctrV C_tmd hardD)],[],dkHo,Id'.one,60⟩:Sy Td) [] 40 (hdC (loopsC (bodyOf Try.f39)) 0) ⟨[(9,.c (.one (.obj 4))),(16,.c (.one (.v (.int .i64 (k:Int)))))]++anyB' (writesC (hdC (loopsC (bodyOf Try.f39)) 0)) ([(0,.c (.one (.ptr 0 0))),(2,.c (.one (.v (.int .i64 cl)))),(3,.c (.one (.v (.int .i64 md)))),(5,.c (.one (.ptr 2 0))),(14,.c (.one (.obj 3))),(15,.c (.one (.v (.int .i64 (L.length:Int)))))]++tabV f 40),[⟨.bx [.obj 1],true⟩,⟨.us (.ext (.mp T)),true⟩,⟨.blk [.v (.int .i64 a),.v (.int .i64 b)],true⟩,⟨.us (.ins L),true⟩,⟨.us (.ins X),true⟩],0⟩).al [true,false])=some qs∧∀ q∈qs,q:=
 ⟨[decide ((↑k:Int)<(↑L.length:Int))=true,(0:Int)≤(↑k:Int)∧(↑k:Int).toNat<L.length,(L.getD (↑k:Int).toNat (0:Int) != cl&&(md==(2:Int)||mdE T a b (L.getD (↑k:Int).toNat (0:Int))==(2:Int)))=false,(Th.ext (Dk.mp T):Td)=Th.ext (Dk.mp T),Value.int IntKind.i64 a=Value.int IntKind.i64 a,Value.int IntKind.i64 b=Value.int IntKind.i64 b,(Th.ins L:Td)=Th.ins L,(Th.ins X:Td)=Th.ins Y,Value.int IntKind.i64 (IntKind.i64.wrap ((↑k:Int)+(1:Int)))=Value.int IntKind.i64 (↑(k+(1:Nat)):Int)],by kernel_rfl,(by refine mcons ?_ (mcons ?_ (mcons ?_ (mcons ?_ (mcons ?_ (mcons ?_ (mcons ?_ (mcons ?_ (mcons ?_ mnil))))))))<;>first|rfl|exact h0|exact h1|exact h2|exact h3|exact h4|trivial|(exact congrArg (fun x=>(Th.ins x:Td)) h4)|(exact congrArg (Value.int .i64) h1)|(show X.length+1≤1000000;omega)|(exact congrArg (fun x=>(Th.ins x:Td)) h1)|(exact ⟨by omega,by show (k:Int).toNat<L.length;omega⟩))⟩
set_option maxRecDepth 100000 in
theorem oth_x (T:List ((Int×Int)×Int)) (a b cl md:Int) (L:List Int) (X Y:List Int) (k:Nat) (f:Nat→Value) (h0:(decide ((k:Int)<(L.length:Int)))=false) (h1:X=Y):∃ qs,alX Id' 4 0 [(9,.c (.one (.obj 4)))] [⟨.bx [.obj 1],true⟩,⟨.us (.ext (.mp T)),true⟩,⟨.blk [.v (.int .i64 a),.v (.int .i64 b)],true⟩,⟨.us (.ins L),true⟩,⟨.us (.ins Y),true⟩] ((symC (⟨Try.prog,[(43,ctrV C_tmd hardD)],[],dkHo,Id'.one,60⟩:Sy Td) [] 40 (hdC (loopsC (bodyOf Try.f39)) 0) ⟨[(9,.c (.one (.obj 4))),(16,.c (.one (.v (.int .i64 (k:Int)))))]++anyB' (writesC (hdC (loopsC (bodyOf Try.f39)) 0)) ([(0,.c (.one (.ptr 0 0))),(2,.c (.one (.v (.int .i64 cl)))),(3,.c (.one (.v (.int .i64 md)))),(5,.c (.one (.ptr 2 0))),(14,.c (.one (.obj 3))),(15,.c (.one (.v (.int .i64 (L.length:Int)))))]++tabV f 40),[⟨.bx [.obj 1],true⟩,⟨.us (.ext (.mp T)),true⟩,⟨.blk [.v (.int .i64 a),.v (.int .i64 b)],true⟩,⟨.us (.ins L),true⟩,⟨.us (.ins X),true⟩],0⟩).al [false])=some qs∧∀ q∈qs,q:=
 ⟨[decide ((↑k:Int)<(↑L.length:Int))=false,(Th.ext (Dk.mp T):Td)=Th.ext (Dk.mp T),Value.int IntKind.i64 a=Value.int IntKind.i64 a,Value.int IntKind.i64 b=Value.int IntKind.i64 b,(Th.ins L:Td)=Th.ins L,(Th.ins X:Td)=Th.ins Y],by kernel_rfl,(by refine mcons ?_ (mcons ?_ (mcons ?_ (mcons ?_ (mcons ?_ (mcons ?_ mnil)))))<;>first|rfl|exact h0|exact h1|trivial|(exact congrArg (fun x=>(Th.ins x:Td)) h4)|(exact congrArg (Value.int .i64) h1)|(show X.length+1≤1000000;omega)|(exact congrArg (fun x=>(Th.ins x:Td)) h1)|(exact ⟨by omega,by show (k:Int).toNat<L.length;omega⟩))⟩
set_option maxRecDepth 100000 in
theorem oth_lp (T:List ((Int×Int)×Int)) (a b cl md:Int) (L:List Int) (hL:L.length≤1000) {W0:World} {G:Nat→Prop} (S0:Sy Td) (hS0:S0.P=Try.prog):LoopSound S0 Id' W0 G 40 (hdC (loopsC (bodyOf Try.f39)) 0) (lpG Id' 40 (hdC (loopsC (bodyOf Try.f39)) 0) 4 [(9,.c (.one (.obj 4))),(16,.c (.one (.v (.int .i64 ((0:Nat):Int)))))] [(0,.c (.one (.ptr 0 0))),(2,.c (.one (.v (.int .i64 cl)))),(3,.c (.one (.v (.int .i64 md)))),(5,.c (.one (.ptr 2 0))),(14,.c (.one (.obj 3))),(15,.c (.one (.v (.int .i64 (L.length:Int)))))] [⟨.bx [.obj 1],true⟩,⟨.us (.ext (.mp T)),true⟩,⟨.blk [.v (.int .i64 a),.v (.int .i64 b)],true⟩,⟨.us (.ins L),true⟩,⟨.us (.ins (othS T a b cl md L 0)),true⟩] (.leaf (.exit 0) [(9,.c (.one (.obj 4)))] [⟨.bx [.obj 1],true⟩,⟨.us (.ext (.mp T)),true⟩,⟨.blk [.v (.int .i64 a),.v (.int .i64 b)],true⟩,⟨.us (.ins L),true⟩,⟨.us (.ins (othS T a b cl md L L.length)),true⟩])):=by
 refine lp_sound (V:=fun k=>[(9,.c (.one (.obj 4))),(16,.c (.one (.v (.int .i64 (k:Int)))))]) (M:=(fun k=>[⟨.bx [.obj 1],true⟩,⟨.us (.ext (.mp T)),true⟩,⟨.blk [.v (.int .i64 a),.v (.int .i64 b)],true⟩,⟨.us (.ins L),true⟩,⟨.us (.ins (othS T a b cl md L k)),true⟩]:Nat→Mem Td)) (N:=L.length) (Ux:=fun k x=>match x with|.exit 0=>some ([(9,.c (.one (.obj 4)))],([⟨.bx [.obj 1],true⟩,⟨.us (.ext (.mp T)),true⟩,⟨.blk [.v (.int .i64 a),.v (.int .i64 b)],true⟩,⟨.us (.ins L),true⟩,⟨.us (.ins (othS T a b cl md L L.length)),true⟩]:Mem Td))|_=>none) (X:=fun _ _=>True) (J:=fun k=>k≤L.length) (fun k=>by kernel_rfl) (Nat.zero_le _) (fun k hk hJ f=>?_) (fun K hK k x U hk hU hX=>?_)
 ·rw [hS0]
  have hXl:=othS_len T a b cl md L k
  cases hT:(decide ((k:Int)<(L.length:Int))) with
  |false=>
   have hk1:k=L.length:=by have:=of_decide_eq_false hT;omega
   exact rnd_xD (⟨Try.prog,[(43,ctrV C_tmd hardD)],[],dkHo,Id'.one,60⟩:Sy Td) rfl ((fun (W0:World) (G:Nat→Prop)=>SyOk.mk2 Try.mixed dkHo_ok (FnsR.cons (R_tmd) (FnsR.nil)) EqsOk.nil) W0 G) (oth_x T a b cl md L _ _ k f hT (by rw [hk1])) rfl trivial
  |true=>
   have hk1:k<L.length:=by have:=of_decide_eq_true hT;omega
   have hW:IntKind.i64.wrap ((k:Int)+1)=((k+1:Nat):Int):=by rw [IntWalk.i64_in _ (by omega)];omega
   cases hE:(L.getD k 0 != cl&&(md==2||mdE T a b (L.getD k 0)==2)) with
   |true=>exact rnd_nD (⟨Try.prog,[(43,ctrV C_tmd hardD)],[],dkHo,Id'.one,60⟩:Sy Td) rfl ((fun (W0:World) (G:Nat→Prop)=>SyOk.mk2 Try.mixed dkHo_ok (FnsR.cons (R_tmd) (FnsR.nil)) EqsOk.nil) W0 G) (oth_n1 T a b cl md L _ _ k f hT hW hk1 hE (othS_yes T a b cl md L hE).symm (by omega)) rfl rfl (by omega) (by omega)
   |false=>exact rnd_nD (⟨Try.prog,[(43,ctrV C_tmd hardD)],[],dkHo,Id'.one,60⟩:Sy Td) rfl ((fun (W0:World) (G:Nat→Prop)=>SyOk.mk2 Try.mixed dkHo_ok (FnsR.cons (R_tmd) (FnsR.nil)) EqsOk.nil) W0 G) (oth_n2 T a b cl md L _ _ k f hT hW hk1 hE (othS_no T a b cl md L hE).symm) rfl rfl (by omega) (by omega)
 ·revert hU
  match x with
  |.exit 0=>intro hU;simp only [Option.some.injEq] at hU;subst hU;exact hK
  |.normal=>intro hU;cases hU
  |.ret=>intro hU;cases hU
  |.exit (n+1)=>intro hU;cases hU
def othE (T:List ((Int×Int)×Int)) (a b cl md:Int):List Int:=othS T a b cl md (holS T a b 8) (holS T a b 8).length
set_option maxRecDepth 100000 in
theorem oth_w0 (T:List ((Int×Int)×Int)) (a b cl md:Int) :∃ qs,wayO Id' ([⟨.bx [.obj 1],true⟩,⟨.us (.ext (.mp T)),true⟩]:Mem Td).length [⟨.bx [.obj 1],true⟩,⟨.us (.ext (.mp T)),true⟩,⟨.us (.ins (othE T a b cl md)),true⟩] (.c (.one (.obj 2))) ((runFn (⟨Try.prog,[(43,ctrV C_tmd hardD),(103,ctrF Id' C_hol hardD)],[],dkHo,Id'.one,60⟩:Sy Td) [(3,(lpG Id' 40 (hdC (loopsC (bodyOf Try.f39)) 0) 4 [(9,.c (.one (.obj 4))),(16,.c (.one (.v (.int .i64 ((0:Nat):Int)))))] [(0,.c (.one (.ptr 0 0))),(2,.c (.one (.v (.int .i64 cl)))),(3,.c (.one (.v (.int .i64 md)))),(5,.c (.one (.ptr 2 0))),(14,.c (.one (.obj 3))),(15,.c (.one (.v (.int .i64 ((holS T a b 8).length:Int)))))] [⟨.bx [.obj 1],true⟩,⟨.us (.ext (.mp T)),true⟩,⟨.blk [.v (.int .i64 a),.v (.int .i64 b)],true⟩,⟨.us (.ins (holS T a b 8)),true⟩,⟨.us (.ins (othS T a b cl md (holS T a b 8) 0)),true⟩] (.leaf (.exit 0) [(9,.c (.one (.obj 4)))] [⟨.bx [.obj 1],true⟩,⟨.us (.ext (.mp T)),true⟩,⟨.blk [.v (.int .i64 a),.v (.int .i64 b)],true⟩,⟨.us (.ins (holS T a b 8)),true⟩,⟨.us (.ins (othS T a b cl md (holS T a b 8) (holS T a b 8).length)),true⟩])))] Try.f39 [.one (.ptr 0 0),.agg [.v (.int .i64 a),.v (.int .i64 b)],.one (.v (.int .i64 cl)),.one (.v (.int .i64 md))] [⟨.bx [.obj 1],true⟩,⟨.us (.ext (.mp T)),true⟩]).al [])=some qs∧∀ q∈qs,q:=
 ⟨[Value.int IntKind.i64 cl=Value.int IntKind.i64 cl,Value.int IntKind.i64 md=Value.int IntKind.i64 md,Value.int IntKind.i64 (↑(holS T a b (8:Nat)).length:Int)=Value.int IntKind.i64 (↑(holS T a b (8:Nat)).length:Int),(Th.ext (Dk.mp T):Td)=Th.ext (Dk.mp T),Value.int IntKind.i64 a=Value.int IntKind.i64 a,Value.int IntKind.i64 b=Value.int IntKind.i64 b,(Th.ins (holS T a b (8:Nat)):Td)=Th.ins (holS T a b (8:Nat)),∀ (w:World),Id'.holds (Th.ins (othS T a b cl md (holS T a b (8:Nat)) (0:Nat))) w nilV∧∀ (j:Nat),¬Id'.foot (Th.ins (othS T a b cl md (holS T a b (8:Nat)) (0:Nat))) w nilV j,Value.int IntKind.i64 (Int.ofNat 0)=Value.int IntKind.i64 (Int.ofNat (0:Nat)),(Th.ext (Dk.mp T):Td)=Th.ext (Dk.mp T),(Th.ins (Nat.brecOn.go (holS T a b (8:Nat)).length (othS._f T a b cl md (holS T a b (8:Nat)))).1:Td)=Th.ins (Nat.brecOn.go (holS T a b (8:Nat)).length (othS._f T a b cl md (holS T a b (8:Nat)))).1],by kernel_rfl,(by refine mcons ?_ (mcons ?_ (mcons ?_ (mcons ?_ (mcons ?_ (mcons ?_ (mcons ?_ (mcons ?_ (mcons ?_ (mcons ?_ (mcons ?_ mnil))))))))))<;>first|rfl|trivial|(exact nil_ins dkI))⟩
def C_oth:Ctr Td:=fun us sub=>match us,sub with
 |[.one (.ptr 0 0),.agg [.v (.int .i64 a),.v (.int .i64 b)],.one (.v (.int .i64 cl)),.one (.v (.int .i64 md))],[⟨.bx [.obj 1],true⟩,⟨.us (.ext (.mp T)),true⟩]=>some ([],.c (.one (.obj 2)),[⟨.bx [.obj 1],true⟩,⟨.us (.ext (.mp T)),true⟩,⟨.us (.ins (othE T a b cl md)),true⟩])
 |_,_=>none
set_option maxRecDepth 100000 in
theorem C_oth_ok:CtrOk Try.prog Id' 39 C_oth:=by
 intro us sub ps x sm h hp w e vs hM ha
 unfold C_oth at h
 split at h
 ·rename_i a b cl md T
  simp only [Option.some.injEq,Prod.mk.injEq] at h
  obtain ⟨rfl,rfl,rfl⟩:=h
  exact ctr_way (I:=Id') (fun (W0:World) (G:Nat→Prop)=>SyOk.mk2 Try.mixed dkHo_ok (FnsR.cons (R_tmd) (FnsR.cons (R_hol) (FnsR.nil))) EqsOk.nil) rfl Try.func39 (by kernel_rfl) (fun W0 G=>LpsOk.cons (by kernel_rfl) (oth_lp T a b cl md (holS T a b 8) (Nat.le_trans (holS_len T a b 8) (by decide)) _ rfl) (LpsOk.nil _)) (cs:=[]) (by kernel_rfl) (oth_w0 T a b cl md ) w e vs hM ha
 ·cases h
theorem R_oth:RowOk Try.prog Id' hardD 39 (ctrF Id' C_oth hardD):=ctrF_ok Try.call39 C_oth_ok
theorem othS_len2 (T:List ((Int×Int)×Int)) (a b cl md:Int):(othE T a b cl md).length≤8:=Nat.le_trans (othS_len T a b cl md _ _) (holS_len T a b 8)
end Go.Proofs.Ytdenmoiaiemokaa
