/- Z8 Z9 W56 Z10. -/
import Derived.Test.YtdenmoiaiemokaaZ7p
import Derived.Test.YtdenmoiaiemokaaH13p
import Derived.Test.YtdenmoiaiemokaaZ3p
import Derived.Test.YtdenmoiaiemokaaW24p
set_option linter.unusedVariables false
set_option linter.unusedSimpArgs false
namespace Go.Proofs.Ytdenmoiaiemokaa
open Go.RowKit
def toI (Q:List (Int×List UInt8)) (a:Int):Nat→List Int
 |0=>[]
 |k+1=>bif (Q.getD k (0,[])).1==a then toI Q a k++[(k:Int)] else toI Q a k
theorem toI_len (Q:List (Int×List UInt8)) (a:Int):∀ k,(toI Q a k).length≤k
 |0=>Nat.le_refl _
 |k+1=>by
  have:=toI_len Q a k
  unfold toI
  cases (Q.getD k (0,[])).1==a with
  |true=>simp only [cond_true,List.length_append,List.length_cons,List.length_nil];omega
  |false=>simp only [cond_false];omega
theorem toI_yes {Q:List (Int×List UInt8)} {a:Int} {k:Nat} (h:((Q.getD k (0,[])).1==a)=true):toI Q a (k+1)=toI Q a k++[(k:Int)]:=by rw [toI,h];rfl
theorem toI_no {Q:List (Int×List UInt8)} {a:Int} {k:Nat} (h:((Q.getD k (0,[])).1==a)=false):toI Q a (k+1)=toI Q a k:=by rw [toI,h];rfl
set_option maxRecDepth 100000 in
theorem rto_n1 (Q:List (Int×List UInt8)) (a:Int) (X Y:List Int) (k:Nat) (f:Nat→Value) (h0:decide ((k:Int)<(Q.length:Int))=true) (h1:IntKind.i64.wrap ((k:Int)+1)=((k+1:Nat):Int)) (h2:k<Q.length) (h3:((Q.getD k (0,[])).1==a)=true) (h4:X++[(k:Int)]=Y) (h5:X.length≤100000):∃ qs,alN Id' 2 [(5,.c (.one (.obj 2))),(6,.c (.one (.v (.int .i64 ((k+1:Nat):Int)))))] [⟨.bx [.obj 1],true⟩,⟨.us (.ext (.tab (.wq 39 Q))),true⟩,⟨.us (.ins Y),true⟩] ((symC (⟨Try.prog,[],[],dkHo,Id'.one,60⟩:Sy Td) [] 31 (hdC (loopsC (bodyOf Try.f30)) 0) ⟨[(5,.c (.one (.obj 2))),(6,.c (.one (.v (.int .i64 (k:Int)))))]++anyB' (writesC (hdC (loopsC (bodyOf Try.f30)) 0)) ([(0,.c (.one (.ptr 0 0))),(1,.c (.one (.v (.int .i64 a))))]++tabV f 31),[⟨.bx [.obj 1],true⟩,⟨.us (.ext (.tab (.wq 39 Q))),true⟩,⟨.us (.ins X),true⟩],0⟩).al [true,true])=some qs∧∀ q∈qs,q:=
 ⟨[decide ((↑k:Int)<(↑(TB.wq 39 Q).n:Int))=true,(0:Int)≤(↑k:Int)∧(↑k:Int).toNat<(TB.wq 39 Q).n,((TB.wq 39 Q).int (↑k:Int)==a)=true,X.length+[(↑k:Int)].length≤(1000000:Nat),(Th.ext (Dk.tab (TB.wq 39 Q)):Td)=Th.ext (Dk.tab (TB.wq 39 Q)),(Th.ins (X++[(k:Int)]):Td)=Th.ins Y,Value.int IntKind.i64 (IntKind.i64.wrap ((↑k:Int)+(1:Int)))=Value.int IntKind.i64 (↑(k+(1:Nat)):Int)],by kernel_rfl,(by refine mcons ?_ (mcons ?_ (mcons ?_ (mcons ?_ (mcons ?_ (mcons ?_ (mcons ?_ mnil))))))<;>first|rfl|exact h0|exact h1|exact h2|exact h3|exact h4|exact h5|trivial|(exact ⟨by omega,by show (k:Int).toNat<Q.length;omega⟩)|(exact congrArg (fun x=>(Th.ins x:Td)) h4)|(exact congrArg (Value.int .i64) h1)|(show X.length+1≤1000000;omega)|(exact congrArg (fun x=>(Th.ins x:Td)) h1))⟩
set_option maxRecDepth 100000 in
theorem rto_n2 (Q:List (Int×List UInt8)) (a:Int) (X Y:List Int) (k:Nat) (f:Nat→Value) (h0:decide ((k:Int)<(Q.length:Int))=true) (h1:IntKind.i64.wrap ((k:Int)+1)=((k+1:Nat):Int)) (h2:k<Q.length) (h3:((Q.getD k (0,[])).1==a)=false) (h4:X=Y):∃ qs,alN Id' 2 [(5,.c (.one (.obj 2))),(6,.c (.one (.v (.int .i64 ((k+1:Nat):Int)))))] [⟨.bx [.obj 1],true⟩,⟨.us (.ext (.tab (.wq 39 Q))),true⟩,⟨.us (.ins Y),true⟩] ((symC (⟨Try.prog,[],[],dkHo,Id'.one,60⟩:Sy Td) [] 31 (hdC (loopsC (bodyOf Try.f30)) 0) ⟨[(5,.c (.one (.obj 2))),(6,.c (.one (.v (.int .i64 (k:Int)))))]++anyB' (writesC (hdC (loopsC (bodyOf Try.f30)) 0)) ([(0,.c (.one (.ptr 0 0))),(1,.c (.one (.v (.int .i64 a))))]++tabV f 31),[⟨.bx [.obj 1],true⟩,⟨.us (.ext (.tab (.wq 39 Q))),true⟩,⟨.us (.ins X),true⟩],0⟩).al [true,false])=some qs∧∀ q∈qs,q:=
 ⟨[decide ((↑k:Int)<(↑(TB.wq 39 Q).n:Int))=true,(0:Int)≤(↑k:Int)∧(↑k:Int).toNat<(TB.wq 39 Q).n,((TB.wq 39 Q).int (↑k:Int)==a)=false,(Th.ext (Dk.tab (TB.wq 39 Q)):Td)=Th.ext (Dk.tab (TB.wq 39 Q)),(Th.ins X:Td)=Th.ins Y,Value.int IntKind.i64 (IntKind.i64.wrap ((↑k:Int)+(1:Int)))=Value.int IntKind.i64 (↑(k+(1:Nat)):Int)],by kernel_rfl,(by refine mcons ?_ (mcons ?_ (mcons ?_ (mcons ?_ (mcons ?_ (mcons ?_ mnil)))))<;>first|rfl|exact h0|exact h1|exact h2|exact h3|exact h4|trivial|(exact ⟨by omega,by show (k:Int).toNat<Q.length;omega⟩)|(exact congrArg (fun x=>(Th.ins x:Td)) h4)|(exact congrArg (Value.int .i64) h1)|(show X.length+1≤1000000;omega)|(exact congrArg (fun x=>(Th.ins x:Td)) h1))⟩
set_option maxRecDepth 100000 in
theorem rto_x (Q:List (Int×List UInt8)) (a:Int) (X Y:List Int) (k:Nat) (f:Nat→Value) (h0:decide ((k:Int)<(Q.length:Int))=false) (h1:X=Y):∃ qs,alX Id' 2 0 [(5,.c (.one (.obj 2)))] [⟨.bx [.obj 1],true⟩,⟨.us (.ext (.tab (.wq 39 Q))),true⟩,⟨.us (.ins Y),true⟩] ((symC (⟨Try.prog,[],[],dkHo,Id'.one,60⟩:Sy Td) [] 31 (hdC (loopsC (bodyOf Try.f30)) 0) ⟨[(5,.c (.one (.obj 2))),(6,.c (.one (.v (.int .i64 (k:Int)))))]++anyB' (writesC (hdC (loopsC (bodyOf Try.f30)) 0)) ([(0,.c (.one (.ptr 0 0))),(1,.c (.one (.v (.int .i64 a))))]++tabV f 31),[⟨.bx [.obj 1],true⟩,⟨.us (.ext (.tab (.wq 39 Q))),true⟩,⟨.us (.ins X),true⟩],0⟩).al [false])=some qs∧∀ q∈qs,q:=
 ⟨[decide ((↑k:Int)<(↑(TB.wq 39 Q).n:Int))=false,(Th.ext (Dk.tab (TB.wq 39 Q)):Td)=Th.ext (Dk.tab (TB.wq 39 Q)),(Th.ins X:Td)=Th.ins Y],by kernel_rfl,(by refine mcons ?_ (mcons ?_ (mcons ?_ mnil))<;>first|rfl|exact h0|exact h1|trivial|(exact ⟨by omega,by show (k:Int).toNat<Q.length;omega⟩)|(exact congrArg (fun x=>(Th.ins x:Td)) h4)|(exact congrArg (Value.int .i64) h1)|(show X.length+1≤1000000;omega)|(exact congrArg (fun x=>(Th.ins x:Td)) h1))⟩
set_option maxRecDepth 100000 in
theorem rto_lp (Q:List (Int×List UInt8)) (a:Int) (hQ:Q.length≤1000) {W0:World} {G:Nat→Prop} (S0:Sy Td) (hS0:S0.P=Try.prog):LoopSound S0 Id' W0 G 31 (hdC (loopsC (bodyOf Try.f30)) 0) (lpG Id' 31 (hdC (loopsC (bodyOf Try.f30)) 0) 2 [(5,.c (.one (.obj 2))),(6,.c (.one (.v (.int .i64 ((0:Nat):Int)))))] [(0,.c (.one (.ptr 0 0))),(1,.c (.one (.v (.int .i64 a))))] [⟨.bx [.obj 1],true⟩,⟨.us (.ext (.tab (.wq 39 Q))),true⟩,⟨.us (.ins (toI Q a 0)),true⟩] (.leaf (.exit 0) [(5,.c (.one (.obj 2)))] [⟨.bx [.obj 1],true⟩,⟨.us (.ext (.tab (.wq 39 Q))),true⟩,⟨.us (.ins (toI Q a Q.length)),true⟩])):=by
 refine lp_sound (V:=fun k=>[(5,.c (.one (.obj 2))),(6,.c (.one (.v (.int .i64 (k:Int)))))]) (M:=(fun k=>[⟨.bx [.obj 1],true⟩,⟨.us (.ext (.tab (.wq 39 Q))),true⟩,⟨.us (.ins (toI Q a k)),true⟩]:Nat→Mem Td)) (N:=Q.length) (Ux:=fun k x=>match x with|.exit 0=>some ([(5,.c (.one (.obj 2)))],([⟨.bx [.obj 1],true⟩,⟨.us (.ext (.tab (.wq 39 Q))),true⟩,⟨.us (.ins (toI Q a Q.length)),true⟩]:Mem Td))|_=>none) (X:=fun _ _=>True) (J:=fun k=>k≤Q.length) (fun k=>by kernel_rfl) (Nat.zero_le _) (fun k hk hJ f=>?_) (fun K hK k x U hk hU hX=>?_)
 ·rw [hS0]
  have hXl:=toI_len Q a k
  cases hT:decide ((k:Int)<(Q.length:Int)) with
  |false=>
   have hk1:¬ k<Q.length:=by rw [ltNI hT];simp
   have hke:k=Q.length:=by omega
   exact rnd_xD (⟨Try.prog,[],[],dkHo,Id'.one,60⟩:Sy Td) rfl ((fun (W0:World) (G:Nat→Prop)=>SyOk.mk2 Try.mixed dkHo_ok (FnsR.nil) EqsOk.nil) W0 G) (rto_x Q a _ _ k f hT (by rw [hke])) rfl trivial
  |true=>
   have hk1:k<Q.length:=by rw [ltNI hT]
   have hW:IntKind.i64.wrap ((k:Int)+1)=((k+1:Nat):Int):=by rw [IntWalk.i64_in _ (by omega)];omega
   cases hE:(Q.getD k (0,[])).1==a with
   |true=>exact rnd_nD (⟨Try.prog,[],[],dkHo,Id'.one,60⟩:Sy Td) rfl ((fun (W0:World) (G:Nat→Prop)=>SyOk.mk2 Try.mixed dkHo_ok (FnsR.nil) EqsOk.nil) W0 G) (rto_n1 Q a _ _ k f hT hW hk1 hE (toI_yes hE).symm (by omega)) rfl rfl (by omega) (by omega)
   |false=>exact rnd_nD (⟨Try.prog,[],[],dkHo,Id'.one,60⟩:Sy Td) rfl ((fun (W0:World) (G:Nat→Prop)=>SyOk.mk2 Try.mixed dkHo_ok (FnsR.nil) EqsOk.nil) W0 G) (rto_n2 Q a _ _ k f hT hW hk1 hE (toI_no hE).symm) rfl rfl (by omega) (by omega)
 ·revert hU
  match x with
  |.exit 0=>intro hU;simp only [Option.some.injEq] at hU;subst hU;exact hK
  |.normal=>intro hU;cases hU
  |.ret=>intro hU;cases hU
  |.exit (n+1)=>intro hU;cases hU
set_option maxRecDepth 100000 in
theorem rto_w0 (Q:List (Int×List UInt8)) (a:Int) (h0:Q.length≤1000):∃ qs,wayO Id' ([⟨.bx [.obj 1],true⟩,⟨.us (.ext (.tab (.wq 39 Q))),true⟩]:Mem Td).length [⟨.bx [.obj 1],true⟩,⟨.us (.ext (.tab (.wq 39 Q))),true⟩,⟨.us (.ins (toI Q a Q.length)),true⟩] (.c (.one (.obj 2))) ((runFn (⟨Try.prog,[],[],dkHo,Id'.one,60⟩:Sy Td) [(3,(lpG Id' 31 (hdC (loopsC (bodyOf Try.f30)) 0) 2 [(5,.c (.one (.obj 2))),(6,.c (.one (.v (.int .i64 ((0:Nat):Int)))))] [(0,.c (.one (.ptr 0 0))),(1,.c (.one (.v (.int .i64 a))))] [⟨.bx [.obj 1],true⟩,⟨.us (.ext (.tab (.wq 39 Q))),true⟩,⟨.us (.ins (toI Q a 0)),true⟩] (.leaf (.exit 0) [(5,.c (.one (.obj 2)))] [⟨.bx [.obj 1],true⟩,⟨.us (.ext (.tab (.wq 39 Q))),true⟩,⟨.us (.ins (toI Q a Q.length)),true⟩])))] Try.f30 [.one (.ptr 0 0),.one (.v (.int .i64 a))] [⟨.bx [.obj 1],true⟩,⟨.us (.ext (.tab (.wq 39 Q))),true⟩]).al [])=some qs∧∀ q∈qs,q:=
 ⟨[Value.int IntKind.i64 a=Value.int IntKind.i64 a,(Th.ext (Dk.tab (TB.wq 39 Q)):Td)=Th.ext (Dk.tab (TB.wq 39 Q)),∀ (w:World),Id'.holds (Th.ins (toI Q a (0:Nat))) w nilV∧∀ (j:Nat),¬Id'.foot (Th.ins (toI Q a (0:Nat))) w nilV j,Value.int IntKind.i64 (Int.ofNat 0)=Value.int IntKind.i64 (Int.ofNat (0:Nat)),(Th.ext (Dk.tab (TB.wq 39 Q)):Td)=Th.ext (Dk.tab (TB.wq 39 Q)),(Th.ins (Nat.brecOn.go Q.length (toI._f Q a)).1:Td)=Th.ins (Nat.brecOn.go Q.length (toI._f Q a)).1],by kernel_rfl,(by refine mcons ?_ (mcons ?_ (mcons ?_ (mcons ?_ (mcons ?_ (mcons ?_ mnil)))))<;>first|rfl|exact h0|trivial|(exact h0)|(exact nil_ins dkI))⟩
def C_rto:Ctr Td:=fun us sub=>match us,sub with
 |[.one (.ptr 0 0),.one (.v (.int .i64 a))],[⟨.bx [.obj 1],true⟩,⟨.us (.ext (.tab (.wq 39 Q))),true⟩]=>some ([Q.length≤1000],.c (.one (.obj 2)),[⟨.bx [.obj 1],true⟩,⟨.us (.ext (.tab (.wq 39 Q))),true⟩,⟨.us (.ins (toI Q a Q.length)),true⟩])
 |_,_=>none
set_option maxRecDepth 100000 in
theorem C_rto_ok:CtrOk Try.prog Id' 30 C_rto:=by
 intro us sub ps x sm h hp w e vs hM ha
 unfold C_rto at h
 split at h
 ·rename_i a Q
  simp only [Option.some.injEq,Prod.mk.injEq] at h
  obtain ⟨rfl,rfl,rfl⟩:=h
  have h0:=hp _ ((List.mem_cons_self ..))
  exact ctr_way (I:=Id') (fun (W0:World) (G:Nat→Prop)=>SyOk.mk2 Try.mixed dkHo_ok (FnsR.nil) EqsOk.nil) rfl Try.func30 (by kernel_rfl) (fun W0 G=>LpsOk.cons (by kernel_rfl) (rto_lp Q a h0 _ rfl) (LpsOk.nil _)) (cs:=[]) (by kernel_rfl) (rto_w0 Q a h0) w e vs hM ha
 ·cases h
theorem R_rto:RowOk Try.prog Id' hardD 30 (ctrF Id' C_rto hardD):=ctrF_ok Try.call30 C_rto_ok
set_option maxRecDepth 100000 in
theorem nto_n1 (Q:List (Int×List UInt8)) (a:Int) (X Y:List Int) (k:Nat) (f:Nat→Value) (h0:decide ((k:Int)<(Q.length:Int))=true) (h1:IntKind.i64.wrap ((k:Int)+1)=((k+1:Nat):Int)) (h2:k<Q.length) (h3:((Q.getD k (0,[])).1==a)=true) (h4:X++[(k:Int)]=Y) (h5:X.length≤100000):∃ qs,alN Id' 2 [(5,.c (.one (.obj 2))),(9,.c (.one (.v (.int .i64 ((k+1:Nat):Int)))))] [⟨.bx [.obj 1],true⟩,⟨.us (.ext (.tab (.wq 37 Q))),true⟩,⟨.us (.ins Y),true⟩] ((symC (⟨Try.prog,[(27,ctrF Id' C_nlen hardD)],[],dkHo,Id'.one,60⟩:Sy Td) [] 28 (hdC (loopsC (bodyOf Try.f29)) 0) ⟨[(5,.c (.one (.obj 2))),(9,.c (.one (.v (.int .i64 (k:Int)))))]++anyB' (writesC (hdC (loopsC (bodyOf Try.f29)) 0)) ([(0,.c (.one (.ptr 0 0))),(1,.c (.one (.v (.int .i64 a)))),(8,.c (.one (.v (.int .i64 (Q.length:Int)))))]++tabV f 28),[⟨.bx [.obj 1],true⟩,⟨.us (.ext (.tab (.wq 37 Q))),true⟩,⟨.us (.ins X),true⟩],0⟩).al [true,true])=some qs∧∀ q∈qs,q:=
 ⟨[decide ((↑k:Int)<(↑Q.length:Int))=true,(0:Int)≤(↑k:Int)∧(↑k:Int).toNat<(TB.wq 37 Q).n,((TB.wq 37 Q).int (↑k:Int)==a)=true,X.length+[(↑k:Int)].length≤(1000000:Nat),(Th.ext (Dk.tab (TB.wq 37 Q)):Td)=Th.ext (Dk.tab (TB.wq 37 Q)),(Th.ins (X++[(k:Int)]):Td)=Th.ins Y,Value.int IntKind.i64 (IntKind.i64.wrap ((↑k:Int)+(1:Int)))=Value.int IntKind.i64 (↑(k+(1:Nat)):Int)],by kernel_rfl,(by refine mcons ?_ (mcons ?_ (mcons ?_ (mcons ?_ (mcons ?_ (mcons ?_ (mcons ?_ mnil))))))<;>first|rfl|exact h0|exact h1|exact h2|exact h3|exact h4|exact h5|trivial|(exact ⟨by omega,by show (k:Int).toNat<Q.length;omega⟩)|(exact congrArg (fun x=>(Th.ins x:Td)) h4)|(exact congrArg (Value.int .i64) h1)|(show X.length+1≤1000000;omega)|(exact congrArg (fun x=>(Th.ins x:Td)) h1))⟩
set_option maxRecDepth 100000 in
theorem nto_n2 (Q:List (Int×List UInt8)) (a:Int) (X Y:List Int) (k:Nat) (f:Nat→Value) (h0:decide ((k:Int)<(Q.length:Int))=true) (h1:IntKind.i64.wrap ((k:Int)+1)=((k+1:Nat):Int)) (h2:k<Q.length) (h3:((Q.getD k (0,[])).1==a)=false) (h4:X=Y):∃ qs,alN Id' 2 [(5,.c (.one (.obj 2))),(9,.c (.one (.v (.int .i64 ((k+1:Nat):Int)))))] [⟨.bx [.obj 1],true⟩,⟨.us (.ext (.tab (.wq 37 Q))),true⟩,⟨.us (.ins Y),true⟩] ((symC (⟨Try.prog,[(27,ctrF Id' C_nlen hardD)],[],dkHo,Id'.one,60⟩:Sy Td) [] 28 (hdC (loopsC (bodyOf Try.f29)) 0) ⟨[(5,.c (.one (.obj 2))),(9,.c (.one (.v (.int .i64 (k:Int)))))]++anyB' (writesC (hdC (loopsC (bodyOf Try.f29)) 0)) ([(0,.c (.one (.ptr 0 0))),(1,.c (.one (.v (.int .i64 a)))),(8,.c (.one (.v (.int .i64 (Q.length:Int)))))]++tabV f 28),[⟨.bx [.obj 1],true⟩,⟨.us (.ext (.tab (.wq 37 Q))),true⟩,⟨.us (.ins X),true⟩],0⟩).al [true,false])=some qs∧∀ q∈qs,q:=
 ⟨[decide ((↑k:Int)<(↑Q.length:Int))=true,(0:Int)≤(↑k:Int)∧(↑k:Int).toNat<(TB.wq 37 Q).n,((TB.wq 37 Q).int (↑k:Int)==a)=false,(Th.ext (Dk.tab (TB.wq 37 Q)):Td)=Th.ext (Dk.tab (TB.wq 37 Q)),(Th.ins X:Td)=Th.ins Y,Value.int IntKind.i64 (IntKind.i64.wrap ((↑k:Int)+(1:Int)))=Value.int IntKind.i64 (↑(k+(1:Nat)):Int)],by kernel_rfl,(by refine mcons ?_ (mcons ?_ (mcons ?_ (mcons ?_ (mcons ?_ (mcons ?_ mnil)))))<;>first|rfl|exact h0|exact h1|exact h2|exact h3|exact h4|trivial|(exact ⟨by omega,by show (k:Int).toNat<Q.length;omega⟩)|(exact congrArg (fun x=>(Th.ins x:Td)) h4)|(exact congrArg (Value.int .i64) h1)|(show X.length+1≤1000000;omega)|(exact congrArg (fun x=>(Th.ins x:Td)) h1))⟩
set_option maxRecDepth 100000 in
theorem nto_x (Q:List (Int×List UInt8)) (a:Int) (X Y:List Int) (k:Nat) (f:Nat→Value) (h0:decide ((k:Int)<(Q.length:Int))=false) (h1:X=Y):∃ qs,alX Id' 2 0 [(5,.c (.one (.obj 2)))] [⟨.bx [.obj 1],true⟩,⟨.us (.ext (.tab (.wq 37 Q))),true⟩,⟨.us (.ins Y),true⟩] ((symC (⟨Try.prog,[(27,ctrF Id' C_nlen hardD)],[],dkHo,Id'.one,60⟩:Sy Td) [] 28 (hdC (loopsC (bodyOf Try.f29)) 0) ⟨[(5,.c (.one (.obj 2))),(9,.c (.one (.v (.int .i64 (k:Int)))))]++anyB' (writesC (hdC (loopsC (bodyOf Try.f29)) 0)) ([(0,.c (.one (.ptr 0 0))),(1,.c (.one (.v (.int .i64 a)))),(8,.c (.one (.v (.int .i64 (Q.length:Int)))))]++tabV f 28),[⟨.bx [.obj 1],true⟩,⟨.us (.ext (.tab (.wq 37 Q))),true⟩,⟨.us (.ins X),true⟩],0⟩).al [false])=some qs∧∀ q∈qs,q:=
 ⟨[decide ((↑k:Int)<(↑Q.length:Int))=false,(Th.ext (Dk.tab (TB.wq 37 Q)):Td)=Th.ext (Dk.tab (TB.wq 37 Q)),(Th.ins X:Td)=Th.ins Y],by kernel_rfl,(by refine mcons ?_ (mcons ?_ (mcons ?_ mnil))<;>first|rfl|exact h0|exact h1|trivial|(exact ⟨by omega,by show (k:Int).toNat<Q.length;omega⟩)|(exact congrArg (fun x=>(Th.ins x:Td)) h4)|(exact congrArg (Value.int .i64) h1)|(show X.length+1≤1000000;omega)|(exact congrArg (fun x=>(Th.ins x:Td)) h1))⟩
set_option maxRecDepth 100000 in
theorem nto_lp (Q:List (Int×List UInt8)) (a:Int) (hQ:Q.length≤1000) {W0:World} {G:Nat→Prop} (S0:Sy Td) (hS0:S0.P=Try.prog):LoopSound S0 Id' W0 G 28 (hdC (loopsC (bodyOf Try.f29)) 0) (lpG Id' 28 (hdC (loopsC (bodyOf Try.f29)) 0) 2 [(5,.c (.one (.obj 2))),(9,.c (.one (.v (.int .i64 ((0:Nat):Int)))))] [(0,.c (.one (.ptr 0 0))),(1,.c (.one (.v (.int .i64 a)))),(8,.c (.one (.v (.int .i64 (Q.length:Int)))))] [⟨.bx [.obj 1],true⟩,⟨.us (.ext (.tab (.wq 37 Q))),true⟩,⟨.us (.ins (toI Q a 0)),true⟩] (.leaf (.exit 0) [(5,.c (.one (.obj 2)))] [⟨.bx [.obj 1],true⟩,⟨.us (.ext (.tab (.wq 37 Q))),true⟩,⟨.us (.ins (toI Q a Q.length)),true⟩])):=by
 refine lp_sound (V:=fun k=>[(5,.c (.one (.obj 2))),(9,.c (.one (.v (.int .i64 (k:Int)))))]) (M:=(fun k=>[⟨.bx [.obj 1],true⟩,⟨.us (.ext (.tab (.wq 37 Q))),true⟩,⟨.us (.ins (toI Q a k)),true⟩]:Nat→Mem Td)) (N:=Q.length) (Ux:=fun k x=>match x with|.exit 0=>some ([(5,.c (.one (.obj 2)))],([⟨.bx [.obj 1],true⟩,⟨.us (.ext (.tab (.wq 37 Q))),true⟩,⟨.us (.ins (toI Q a Q.length)),true⟩]:Mem Td))|_=>none) (X:=fun _ _=>True) (J:=fun k=>k≤Q.length) (fun k=>by kernel_rfl) (Nat.zero_le _) (fun k hk hJ f=>?_) (fun K hK k x U hk hU hX=>?_)
 ·rw [hS0]
  have hXl:=toI_len Q a k
  cases hT:decide ((k:Int)<(Q.length:Int)) with
  |false=>
   have hk1:¬ k<Q.length:=by rw [ltNI hT];simp
   have hke:k=Q.length:=by omega
   exact rnd_xD (⟨Try.prog,[(27,ctrF Id' C_nlen hardD)],[],dkHo,Id'.one,60⟩:Sy Td) rfl ((fun (W0:World) (G:Nat→Prop)=>SyOk.mk2 Try.mixed dkHo_ok (FnsR.cons (R_nlen) (FnsR.nil)) EqsOk.nil) W0 G) (nto_x Q a _ _ k f hT (by rw [hke])) rfl trivial
  |true=>
   have hk1:k<Q.length:=by rw [ltNI hT]
   have hW:IntKind.i64.wrap ((k:Int)+1)=((k+1:Nat):Int):=by rw [IntWalk.i64_in _ (by omega)];omega
   cases hE:(Q.getD k (0,[])).1==a with
   |true=>exact rnd_nD (⟨Try.prog,[(27,ctrF Id' C_nlen hardD)],[],dkHo,Id'.one,60⟩:Sy Td) rfl ((fun (W0:World) (G:Nat→Prop)=>SyOk.mk2 Try.mixed dkHo_ok (FnsR.cons (R_nlen) (FnsR.nil)) EqsOk.nil) W0 G) (nto_n1 Q a _ _ k f hT hW hk1 hE (toI_yes hE).symm (by omega)) rfl rfl (by omega) (by omega)
   |false=>exact rnd_nD (⟨Try.prog,[(27,ctrF Id' C_nlen hardD)],[],dkHo,Id'.one,60⟩:Sy Td) rfl ((fun (W0:World) (G:Nat→Prop)=>SyOk.mk2 Try.mixed dkHo_ok (FnsR.cons (R_nlen) (FnsR.nil)) EqsOk.nil) W0 G) (nto_n2 Q a _ _ k f hT hW hk1 hE (toI_no hE).symm) rfl rfl (by omega) (by omega)
 ·revert hU
  match x with
  |.exit 0=>intro hU;simp only [Option.some.injEq] at hU;subst hU;exact hK
  |.normal=>intro hU;cases hU
  |.ret=>intro hU;cases hU
  |.exit (n+1)=>intro hU;cases hU
set_option maxRecDepth 100000 in
theorem nto_w0 (Q:List (Int×List UInt8)) (a:Int) (h0:Q.length≤1000):∃ qs,wayO Id' ([⟨.bx [.obj 1],true⟩,⟨.us (.ext (.tab (.wq 37 Q))),true⟩]:Mem Td).length [⟨.bx [.obj 1],true⟩,⟨.us (.ext (.tab (.wq 37 Q))),true⟩,⟨.us (.ins (toI Q a Q.length)),true⟩] (.c (.one (.obj 2))) ((runFn (⟨Try.prog,[(27,ctrF Id' C_nlen hardD)],[],dkHo,Id'.one,60⟩:Sy Td) [(3,(lpG Id' 28 (hdC (loopsC (bodyOf Try.f29)) 0) 2 [(5,.c (.one (.obj 2))),(9,.c (.one (.v (.int .i64 ((0:Nat):Int)))))] [(0,.c (.one (.ptr 0 0))),(1,.c (.one (.v (.int .i64 a)))),(8,.c (.one (.v (.int .i64 (Q.length:Int)))))] [⟨.bx [.obj 1],true⟩,⟨.us (.ext (.tab (.wq 37 Q))),true⟩,⟨.us (.ins (toI Q a 0)),true⟩] (.leaf (.exit 0) [(5,.c (.one (.obj 2)))] [⟨.bx [.obj 1],true⟩,⟨.us (.ext (.tab (.wq 37 Q))),true⟩,⟨.us (.ins (toI Q a Q.length)),true⟩])))] Try.f29 [.one (.ptr 0 0),.one (.v (.int .i64 a))] [⟨.bx [.obj 1],true⟩,⟨.us (.ext (.tab (.wq 37 Q))),true⟩]).al [])=some qs∧∀ q∈qs,q:=
 ⟨[Value.int IntKind.i64 a=Value.int IntKind.i64 a,Value.int IntKind.i64 (↑Q.length:Int)=Value.int IntKind.i64 (↑Q.length:Int),(Th.ext (Dk.tab (TB.wq 37 Q)):Td)=Th.ext (Dk.tab (TB.wq 37 Q)),∀ (w:World),Id'.holds (Th.ins (toI Q a (0:Nat))) w nilV∧∀ (j:Nat),¬Id'.foot (Th.ins (toI Q a (0:Nat))) w nilV j,Value.int IntKind.i64 (Int.ofNat 0)=Value.int IntKind.i64 (Int.ofNat (0:Nat)),(Th.ext (Dk.tab (TB.wq 37 Q)):Td)=Th.ext (Dk.tab (TB.wq 37 Q)),(Th.ins (Nat.brecOn.go Q.length (toI._f Q a)).1:Td)=Th.ins (Nat.brecOn.go Q.length (toI._f Q a)).1],by kernel_rfl,(by refine mcons ?_ (mcons ?_ (mcons ?_ (mcons ?_ (mcons ?_ (mcons ?_ (mcons ?_ mnil))))))<;>first|rfl|exact h0|trivial|(exact h0)|(exact nil_ins dkI))⟩
def C_nto:Ctr Td:=fun us sub=>match us,sub with
 |[.one (.ptr 0 0),.one (.v (.int .i64 a))],[⟨.bx [.obj 1],true⟩,⟨.us (.ext (.tab (.wq 37 Q))),true⟩]=>some ([Q.length≤1000],.c (.one (.obj 2)),[⟨.bx [.obj 1],true⟩,⟨.us (.ext (.tab (.wq 37 Q))),true⟩,⟨.us (.ins (toI Q a Q.length)),true⟩])
 |_,_=>none
set_option maxRecDepth 100000 in
theorem C_nto_ok:CtrOk Try.prog Id' 29 C_nto:=by
 intro us sub ps x sm h hp w e vs hM ha
 unfold C_nto at h
 split at h
 ·rename_i a Q
  simp only [Option.some.injEq,Prod.mk.injEq] at h
  obtain ⟨rfl,rfl,rfl⟩:=h
  have h0:=hp _ ((List.mem_cons_self ..))
  exact ctr_way (I:=Id') (fun (W0:World) (G:Nat→Prop)=>SyOk.mk2 Try.mixed dkHo_ok (FnsR.cons (R_nlen) (FnsR.nil)) EqsOk.nil) rfl Try.func29 (by kernel_rfl) (fun W0 G=>LpsOk.cons (by kernel_rfl) (nto_lp Q a h0 _ rfl) (LpsOk.nil _)) (cs:=[]) (by kernel_rfl) (nto_w0 Q a h0) w e vs hM ha
 ·cases h
theorem R_nto:RowOk Try.prog Id' hardD 29 (ctrF Id' C_nto hardD):=ctrF_ok Try.call29 C_nto_ok
end Go.Proofs.Ytdenmoiaiemokaa
set_option linter.unusedVariables false
set_option linter.unusedSimpArgs false
namespace Go.Proofs.Ytdenmoiaiemokaa
open Go.RowKit
def ctQ (Q:List (Int×List UInt8)) (a:Int):Nat→List (Int×List UInt8)
 |0=>[]
 |k+1=>bif (Q.getD k (0,[])).1 != a then ctQ Q a k++[Q.getD k (0,[])] else ctQ Q a k
theorem ctQ_len (Q:List (Int×List UInt8)) (a:Int):∀ k,(ctQ Q a k).length≤k
 |0=>Nat.le_refl _
 |k+1=>by
  have:=ctQ_len Q a k
  unfold ctQ
  cases (Q.getD k (0,[])).1 != a with
  |true=>simp only [cond_true,List.length_append,List.length_cons,List.length_nil];omega
  |false=>simp only [cond_false];omega
theorem ctQ_yes {Q:List (Int×List UInt8)} {a:Int} {k:Nat} (h:((Q.getD k (0,[])).1 != a)=true):ctQ Q a (k+1)=ctQ Q a k++[((Q.getD k (0,[])).1,(Q.getD k (0,[])).2)]:=by rw [ctQ,h];rfl
theorem ctQ_no {Q:List (Int×List UInt8)} {a:Int} {k:Nat} (h:((Q.getD k (0,[])).1 != a)=false):ctQ Q a (k+1)=ctQ Q a k:=by rw [ctQ,h];rfl
theorem ctQ_take (Q:List (Int×List UInt8)) (a:Int):∀ k,k≤Q.length→ctQ Q a k=(Q.take k).filter (fun q=>q.1 != a)
 |0,_=>rfl
 |k+1,h=>by
  have hx:Q.getD k (0,[])=Q[k]:=by rw [List.getD_eq_getElem?_getD,List.getElem?_eq_getElem (by omega)];rfl
  rw [List.take_add_one,List.getElem?_eq_getElem (by omega),List.filter_append,←ctQ_take Q a k (by omega),ctQ,hx]
  show _=_++List.filter _ [Q[k]]
  cases hq:Q[k].1 != a with
  |true=>rw [cond_true,List.filter_cons,if_pos hq];rfl
  |false=>rw [cond_false,List.filter_cons,if_neg (by rw [hq];decide),List.filter_nil,List.append_nil]
theorem ctQ_all (Q:List (Int×List UInt8)) (a:Int):ctQ Q a Q.length=Q.filter (fun q=>q.1 != a):=by rw [ctQ_take Q a _ (Nat.le_refl _),List.take_of_length_le (Nat.le_refl _)]
set_option maxRecDepth 100000 in
theorem rct_n1 (Q:List (Int×List UInt8)) (a:Int) (X Y:List (Int×List UInt8)) (k:Nat) (f:Nat→Value) (h0:decide ((k:Int)<(Q.length:Int))=true) (h1:IntKind.i64.wrap ((k:Int)+1)=((k+1:Nat):Int)) (h2:k<Q.length) (h3:((Q.getD k (0,[])).1 != a)=true) (h4:X++[((Q.getD k (0,[])).1,(Q.getD k (0,[])).2)]=Y) (h5:X.length≤10000):∃ qs,alN Id' 2 [(6,.c (.one (.obj 2))),(7,.c (.one (.v (.int .i64 ((k+1:Nat):Int)))))] [⟨.bx [.obj 1],true⟩,⟨.us (.ext (.tab (.wq 39 Q))),true⟩,⟨.us (.ext (.tab (.wq 39 Y))),true⟩] ((symC (⟨Try.prog,[],[],dkHo,Id'.one,60⟩:Sy Td) [] 46 (hdC (loopsC (bodyOf Try.f26)) 0) ⟨[(6,.c (.one (.obj 2))),(7,.c (.one (.v (.int .i64 (k:Int)))))]++anyB' (writesC (hdC (loopsC (bodyOf Try.f26)) 0)) ([(0,.c (.one (.ptr 0 0))),(1,.c (.one (.v (.int .i64 a)))),(5,.c (.one (.v (.int .i64 (Q.length:Int)))))]++tabV f 46),[⟨.bx [.obj 1],true⟩,⟨.us (.ext (.tab (.wq 39 Q))),true⟩,⟨.us (.ext (.tab (.wq 39 X))),true⟩],0⟩).al [true,true])=some qs∧∀ q∈qs,q:=
 ⟨[decide ((↑k:Int)<(↑Q.length:Int))=true,(0:Int)≤(↑k:Int)∧(↑k:Int).toNat<(TB.wq 39 Q).n,((TB.wq 39 Q).int (↑k:Int) != a)=true,(TB.wq 39 X).n+(TB.wq 39 [((TB.wq 39 Q).int (↑k:Int),(TB.wq 39 Q).byt (↑k:Int))]).n≤(100000:Nat),(0:Int)≤(↑k:Int)∧(↑k:Int).toNat<(TB.wq 39 Q).n,(Th.ext (Dk.tab (TB.wq 39 Q)):Td)=Th.ext (Dk.tab (TB.wq 39 Q)),(Th.ext (Dk.tab (TB.wq 39 (X++[((Q.getD k (0,[])).1,(Q.getD k (0,[])).2)]))):Td)=Th.ext (Dk.tab (TB.wq 39 Y)),Value.int IntKind.i64 (IntKind.i64.wrap ((↑k:Int)+(1:Int)))=Value.int IntKind.i64 (↑(k+(1:Nat)):Int)],by kernel_rfl,(by refine mcons ?_ (mcons ?_ (mcons ?_ (mcons ?_ (mcons ?_ (mcons ?_ (mcons ?_ (mcons ?_ mnil)))))))<;>first|rfl|exact h0|exact h1|exact h2|exact h3|exact h4|exact h5|trivial|(exact ⟨by omega,by show (k:Int).toNat<Q.length;omega⟩)|(exact congrArg (fun x=>(Th.ext (Dk.tab (TB.wq 39 x)):Td)) h4)|(exact congrArg (Value.int .i64) h1)|(show X.length+1≤100000;omega)|(exact congrArg (fun x=>(Th.ext (Dk.tab (TB.wq 39 x)):Td)) h1))⟩
set_option maxRecDepth 100000 in
theorem rct_n2 (Q:List (Int×List UInt8)) (a:Int) (X Y:List (Int×List UInt8)) (k:Nat) (f:Nat→Value) (h0:decide ((k:Int)<(Q.length:Int))=true) (h1:IntKind.i64.wrap ((k:Int)+1)=((k+1:Nat):Int)) (h2:k<Q.length) (h3:((Q.getD k (0,[])).1 != a)=false) (h4:X=Y):∃ qs,alN Id' 2 [(6,.c (.one (.obj 2))),(7,.c (.one (.v (.int .i64 ((k+1:Nat):Int)))))] [⟨.bx [.obj 1],true⟩,⟨.us (.ext (.tab (.wq 39 Q))),true⟩,⟨.us (.ext (.tab (.wq 39 Y))),true⟩] ((symC (⟨Try.prog,[],[],dkHo,Id'.one,60⟩:Sy Td) [] 46 (hdC (loopsC (bodyOf Try.f26)) 0) ⟨[(6,.c (.one (.obj 2))),(7,.c (.one (.v (.int .i64 (k:Int)))))]++anyB' (writesC (hdC (loopsC (bodyOf Try.f26)) 0)) ([(0,.c (.one (.ptr 0 0))),(1,.c (.one (.v (.int .i64 a)))),(5,.c (.one (.v (.int .i64 (Q.length:Int)))))]++tabV f 46),[⟨.bx [.obj 1],true⟩,⟨.us (.ext (.tab (.wq 39 Q))),true⟩,⟨.us (.ext (.tab (.wq 39 X))),true⟩],0⟩).al [true,false])=some qs∧∀ q∈qs,q:=
 ⟨[decide ((↑k:Int)<(↑Q.length:Int))=true,(0:Int)≤(↑k:Int)∧(↑k:Int).toNat<(TB.wq 39 Q).n,((TB.wq 39 Q).int (↑k:Int) != a)=false,(Th.ext (Dk.tab (TB.wq 39 Q)):Td)=Th.ext (Dk.tab (TB.wq 39 Q)),(Th.ext (Dk.tab (TB.wq 39 X)):Td)=Th.ext (Dk.tab (TB.wq 39 Y)),Value.int IntKind.i64 (IntKind.i64.wrap ((↑k:Int)+(1:Int)))=Value.int IntKind.i64 (↑(k+(1:Nat)):Int)],by kernel_rfl,(by refine mcons ?_ (mcons ?_ (mcons ?_ (mcons ?_ (mcons ?_ (mcons ?_ mnil)))))<;>first|rfl|exact h0|exact h1|exact h2|exact h3|exact h4|trivial|(exact ⟨by omega,by show (k:Int).toNat<Q.length;omega⟩)|(exact congrArg (fun x=>(Th.ext (Dk.tab (TB.wq 39 x)):Td)) h4)|(exact congrArg (Value.int .i64) h1)|(show X.length+1≤100000;omega)|(exact congrArg (fun x=>(Th.ext (Dk.tab (TB.wq 39 x)):Td)) h1))⟩
set_option maxRecDepth 100000 in
theorem rct_x (Q:List (Int×List UInt8)) (a:Int) (X Y:List (Int×List UInt8)) (k:Nat) (f:Nat→Value) (h0:decide ((k:Int)<(Q.length:Int))=false) (h1:X=Y):∃ qs,alX Id' 2 0 [(6,.c (.one (.obj 2)))] [⟨.bx [.obj 1],true⟩,⟨.us (.ext (.tab (.wq 39 Q))),true⟩,⟨.us (.ext (.tab (.wq 39 Y))),true⟩] ((symC (⟨Try.prog,[],[],dkHo,Id'.one,60⟩:Sy Td) [] 46 (hdC (loopsC (bodyOf Try.f26)) 0) ⟨[(6,.c (.one (.obj 2))),(7,.c (.one (.v (.int .i64 (k:Int)))))]++anyB' (writesC (hdC (loopsC (bodyOf Try.f26)) 0)) ([(0,.c (.one (.ptr 0 0))),(1,.c (.one (.v (.int .i64 a)))),(5,.c (.one (.v (.int .i64 (Q.length:Int)))))]++tabV f 46),[⟨.bx [.obj 1],true⟩,⟨.us (.ext (.tab (.wq 39 Q))),true⟩,⟨.us (.ext (.tab (.wq 39 X))),true⟩],0⟩).al [false])=some qs∧∀ q∈qs,q:=
 ⟨[decide ((↑k:Int)<(↑Q.length:Int))=false,(Th.ext (Dk.tab (TB.wq 39 Q)):Td)=Th.ext (Dk.tab (TB.wq 39 Q)),(Th.ext (Dk.tab (TB.wq 39 X)):Td)=Th.ext (Dk.tab (TB.wq 39 Y))],by kernel_rfl,(by refine mcons ?_ (mcons ?_ (mcons ?_ mnil))<;>first|rfl|exact h0|exact h1|trivial|(exact ⟨by omega,by show (k:Int).toNat<Q.length;omega⟩)|(exact congrArg (fun x=>(Th.ext (Dk.tab (TB.wq 39 x)):Td)) h4)|(exact congrArg (Value.int .i64) h1)|(show X.length+1≤100000;omega)|(exact congrArg (fun x=>(Th.ext (Dk.tab (TB.wq 39 x)):Td)) h1))⟩
set_option maxRecDepth 100000 in
theorem rct_lp (Q:List (Int×List UInt8)) (a:Int) (hQ:Q.length≤1000) {W0:World} {G:Nat→Prop} (S0:Sy Td) (hS0:S0.P=Try.prog):LoopSound S0 Id' W0 G 46 (hdC (loopsC (bodyOf Try.f26)) 0) (lpG Id' 46 (hdC (loopsC (bodyOf Try.f26)) 0) 2 [(6,.c (.one (.obj 2))),(7,.c (.one (.v (.int .i64 ((0:Nat):Int)))))] [(0,.c (.one (.ptr 0 0))),(1,.c (.one (.v (.int .i64 a)))),(5,.c (.one (.v (.int .i64 (Q.length:Int)))))] [⟨.bx [.obj 1],true⟩,⟨.us (.ext (.tab (.wq 39 Q))),true⟩,⟨.us (.ext (.tab (.wq 39 (ctQ Q a 0)))),true⟩] (.leaf (.exit 0) [(6,.c (.one (.obj 2)))] [⟨.bx [.obj 1],true⟩,⟨.us (.ext (.tab (.wq 39 Q))),true⟩,⟨.us (.ext (.tab (.wq 39 (ctQ Q a Q.length)))),true⟩])):=by
 refine lp_sound (V:=fun k=>[(6,.c (.one (.obj 2))),(7,.c (.one (.v (.int .i64 (k:Int)))))]) (M:=(fun k=>[⟨.bx [.obj 1],true⟩,⟨.us (.ext (.tab (.wq 39 Q))),true⟩,⟨.us (.ext (.tab (.wq 39 (ctQ Q a k)))),true⟩]:Nat→Mem Td)) (N:=Q.length) (Ux:=fun k x=>match x with|.exit 0=>some ([(6,.c (.one (.obj 2)))],([⟨.bx [.obj 1],true⟩,⟨.us (.ext (.tab (.wq 39 Q))),true⟩,⟨.us (.ext (.tab (.wq 39 (ctQ Q a Q.length)))),true⟩]:Mem Td))|_=>none) (X:=fun _ _=>True) (J:=fun k=>k≤Q.length) (fun k=>by kernel_rfl) (Nat.zero_le _) (fun k hk hJ f=>?_) (fun K hK k x U hk hU hX=>?_)
 ·rw [hS0]
  have hXl:=ctQ_len Q a k
  cases hT:decide ((k:Int)<(Q.length:Int)) with
  |false=>
   have hk1:¬ k<Q.length:=by rw [ltNI hT];simp
   have hke:k=Q.length:=by omega
   exact rnd_xD (⟨Try.prog,[],[],dkHo,Id'.one,60⟩:Sy Td) rfl ((fun (W0:World) (G:Nat→Prop)=>SyOk.mk2 Try.mixed dkHo_ok (FnsR.nil) EqsOk.nil) W0 G) (rct_x Q a _ _ k f hT (by rw [hke])) rfl trivial
  |true=>
   have hk1:k<Q.length:=by rw [ltNI hT]
   have hW:IntKind.i64.wrap ((k:Int)+1)=((k+1:Nat):Int):=by rw [IntWalk.i64_in _ (by omega)];omega
   cases hE:(Q.getD k (0,[])).1 != a with
   |true=>exact rnd_nD (⟨Try.prog,[],[],dkHo,Id'.one,60⟩:Sy Td) rfl ((fun (W0:World) (G:Nat→Prop)=>SyOk.mk2 Try.mixed dkHo_ok (FnsR.nil) EqsOk.nil) W0 G) (rct_n1 Q a _ _ k f hT hW hk1 hE (ctQ_yes hE).symm (by omega)) rfl rfl (by omega) (by omega)
   |false=>exact rnd_nD (⟨Try.prog,[],[],dkHo,Id'.one,60⟩:Sy Td) rfl ((fun (W0:World) (G:Nat→Prop)=>SyOk.mk2 Try.mixed dkHo_ok (FnsR.nil) EqsOk.nil) W0 G) (rct_n2 Q a _ _ k f hT hW hk1 hE (ctQ_no hE).symm) rfl rfl (by omega) (by omega)
 ·revert hU
  match x with
  |.exit 0=>intro hU;simp only [Option.some.injEq] at hU;subst hU;exact hK
  |.normal=>intro hU;cases hU
  |.ret=>intro hU;cases hU
  |.exit (n+1)=>intro hU;cases hU
set_option maxRecDepth 100000 in
theorem rct_w0 (Q:List (Int×List UInt8)) (a:Int) (h0:Q.length≤1000):∃ qs,wayO Id' ([⟨.bx [.obj 1],true⟩,⟨.us (.ext (.tab (.wq 39 Q))),true⟩]:Mem Td).length [⟨.bx [.obj 2],true⟩,⟨.dead,true⟩,⟨.us (.ext (.tab (.wq 39 (ctQ Q a Q.length)))),true⟩] (.c (.one (.v (.int .i64 (IntKind.i64.wrap ((Q.length:Int) - ((ctQ Q a Q.length).length:Int))))))) ((runFn (⟨Try.prog,[],[],dkHo,Id'.one,60⟩:Sy Td) [(4,(lpG Id' 46 (hdC (loopsC (bodyOf Try.f26)) 0) 2 [(6,.c (.one (.obj 2))),(7,.c (.one (.v (.int .i64 ((0:Nat):Int)))))] [(0,.c (.one (.ptr 0 0))),(1,.c (.one (.v (.int .i64 a)))),(5,.c (.one (.v (.int .i64 (Q.length:Int)))))] [⟨.bx [.obj 1],true⟩,⟨.us (.ext (.tab (.wq 39 Q))),true⟩,⟨.us (.ext (.tab (.wq 39 (ctQ Q a 0)))),true⟩] (.leaf (.exit 0) [(6,.c (.one (.obj 2)))] [⟨.bx [.obj 1],true⟩,⟨.us (.ext (.tab (.wq 39 Q))),true⟩,⟨.us (.ext (.tab (.wq 39 (ctQ Q a Q.length)))),true⟩])))] Try.f26 [.one (.ptr 0 0),.one (.v (.int .i64 a))] [⟨.bx [.obj 1],true⟩,⟨.us (.ext (.tab (.wq 39 Q))),true⟩]).al [])=some qs∧∀ q∈qs,q:=
 ⟨[Value.int IntKind.i64 a=Value.int IntKind.i64 a,Value.int IntKind.i64 (↑(TB.wq 39 Q).n:Int)=Value.int IntKind.i64 (↑Q.length:Int),(Th.ext (Dk.tab (TB.wq 39 Q)):Td)=Th.ext (Dk.tab (TB.wq 39 Q)),∀ (w:World),Id'.holds (Th.ext (Dk.tab (TB.wq 39 (ctQ Q a (0:Nat))))) w nilV∧∀ (j:Nat),¬Id'.foot (Th.ext (Dk.tab (TB.wq 39 (ctQ Q a (0:Nat))))) w nilV j,Value.int IntKind.i64 (Int.ofNat 0)=Value.int IntKind.i64 (Int.ofNat (0:Nat)),(Th.ext (Dk.tab (TB.wq 39 (Nat.brecOn.go Q.length (ctQ._f Q a)).1)):Td)=Th.ext (Dk.tab (TB.wq 39 (Nat.brecOn.go Q.length (ctQ._f Q a)).1)),Value.int IntKind.i64 (IntKind.i64.wrap ((↑(TB.wq 39 Q).n:Int) - (↑(TB.wq 39 (ctQ Q a Q.length)).n:Int)))=Value.int IntKind.i64 (IntKind.i64.wrap ((↑Q.length:Int) - (↑(ctQ Q a Q.length).length:Int)))],by kernel_rfl,(by refine mcons ?_ (mcons ?_ (mcons ?_ (mcons ?_ (mcons ?_ (mcons ?_ (mcons ?_ mnil))))))<;>first|rfl|exact h0|trivial|(exact h0)|(exact nil_tabP rfl))⟩
def C_rct:Ctr Td:=fun us sub=>match us,sub with
 |[.one (.ptr 0 0),.one (.v (.int .i64 a))],[⟨.bx [.obj 1],true⟩,⟨.us (.ext (.tab (.wq 39 Q))),true⟩]=>some ([Q.length≤1000],.c (.one (.v (.int .i64 (IntKind.i64.wrap ((Q.length:Int) - ((ctQ Q a Q.length).length:Int)))))),[⟨.bx [.obj 2],true⟩,⟨.dead,true⟩,⟨.us (.ext (.tab (.wq 39 (ctQ Q a Q.length)))),true⟩])
 |_,_=>none
set_option maxRecDepth 100000 in
theorem C_rct_ok:CtrOk Try.prog Id' 26 C_rct:=by
 intro us sub ps x sm h hp w e vs hM ha
 unfold C_rct at h
 split at h
 ·rename_i a Q
  simp only [Option.some.injEq,Prod.mk.injEq] at h
  obtain ⟨rfl,rfl,rfl⟩:=h
  have h0:=hp _ ((List.mem_cons_self ..))
  exact ctr_way (I:=Id') (fun (W0:World) (G:Nat→Prop)=>SyOk.mk2 Try.mixed dkHo_ok (FnsR.nil) EqsOk.nil) rfl Try.func26 (by kernel_rfl) (fun W0 G=>LpsOk.cons (by kernel_rfl) (rct_lp Q a h0 _ rfl) (LpsOk.nil _)) (cs:=[]) (by kernel_rfl) (rct_w0 Q a h0) w e vs hM ha
 ·cases h
end Go.Proofs.Ytdenmoiaiemokaa
set_option linter.unusedVariables false
set_option linter.unusedSimpArgs false
namespace Go.Proofs.Ytdenmoiaiemokaa
open Go.RowKit
section
variable {W0:World} {G:Nat→Prop} {w:World} {e:Env} {mem:Mem Td}
def fzE (en:En Td):En Td:=match en.ob with
 |.blk cs=>⟨.blk cs,false⟩
 |_=>en
theorem fz_ok (i:Nat) (w:World) (e:Env) (mem:Mem Td) (hM:MemOk W0 G Id' w e mem):MemOk W0 G Id' w e (modAt fzE i mem):=by
 have key:∀ (j:Nat) (n':En Td),(modAt fzE i mem)[j]? =some n'→∃ n,mem[j]? =some n∧(∀ u,Holds Id' e w u n.mu n.ob→Holds Id' e w u n'.mu n'.ob)∧(∀ u k,Foot Id' w u n'.ob k→Foot Id' w u n.ob k)∧(n'.mu=true→n'=n):=fun j n' hn=>by
  obtain ⟨n,h1,h2⟩:=modAt_get _ _ _ _ _ hn
  refine ⟨n,h1,?_⟩
  rcases h2 with rfl|rfl
  ·exact ⟨fun u h=>h,fun u k h=>h,fun _=>rfl⟩
  ·unfold fzE
   split
   ·rename_i cs hb
    rw [hb]
    exact ⟨fun u ⟨b,o,h1,h2⟩=>⟨b,o,h1,fun j p hp=>by obtain ⟨x,g1,g2,_⟩:=h2 j p hp;exact ⟨x,g1,g2,fun h=>by cases h⟩⟩,fun u k h=>h,fun h=>by cases h⟩
   ·exact ⟨fun u h=>h,fun u k h=>h,fun _=>rfl⟩
 refine ⟨by rw [modAt_len];exact hM.len,fun j u n hu hn=>?_,fun j u n hu hn k hk=>?_,fun j u n hu hn hmu k hk=>?_,fun i' j u v n m hu hn hmu hv hm hij k hk1 hk2=>?_,hM.mod,fun j u n hu hn k hk=>?_⟩
 ·obtain ⟨n0,h1,h2,_⟩:=key j n hn
  exact h2 u (hM.holds j u n0 hu h1)
 ·obtain ⟨n0,h1,_,h3,_⟩:=key j n hn
  exact hM.lt j u n0 hu h1 k (h3 u k hk)
 ·obtain ⟨n0,h1,_,_,h4⟩:=key j n hn
  obtain rfl:=h4 hmu
  exact hM.own j u n hu h1 hmu k hk
 ·obtain ⟨n0,h1,_,_,h4⟩:=key i' n hn
  obtain ⟨m0,g1,_,g3,_⟩:=key j m hm
  obtain rfl:=h4 hmu
  exact hM.sep i' j u v n m0 hu h1 hmu hv g1 hij k hk1 (g3 v k hk2)
 ·obtain ⟨n0,h1,_,h3,_⟩:=key j n hn
  exact hM.rd j u n0 hu h1 k (h3 u k hk)
end
end Go.Proofs.Ytdenmoiaiemokaa
set_option linter.unusedVariables false
set_option linter.unusedSimpArgs false
namespace Go.Proofs.Ytdenmoiaiemokaa
open Go.RowKit
set_option maxRecDepth 100000 in
theorem ncl_w0 (x:Int) (l:List UInt8) (a:Int) :∃ qs,wayO Id' ([⟨.us (.byt l),false⟩,⟨.blk [.v (.int .i64 a)],false⟩]:Mem Td).length [⟨.us (.byt l),false⟩,⟨.blk [.v (.int .i64 a)],false⟩] (svV (.bool (x==a))) ((runFn (⟨Try.prog,[],[],dkHo,Id'.one,60⟩:Sy Td) [] Try.f97 [.agg [.v (.int .i64 x),.obj 0],.one (.ptr 1 0)] [⟨.us (.byt l),false⟩,⟨.blk [.v (.int .i64 a)],false⟩]).al [])=some qs∧∀ q∈qs,q:=
 ⟨[(Th.byt l:Td)=Th.byt l,Value.int IntKind.i64 a=Value.int IntKind.i64 a,Value.bool (x==a)=Value.bool (x==a)],by kernel_rfl,(by refine mcons ?_ (mcons ?_ (mcons ?_ mnil))<;>first|rfl|trivial)⟩
def C_ncl:Ctr Td:=fun us sub=>match us,sub with
 |[.agg [.v (.int .i64 x),.obj 0],.one (.ptr 1 0)],[⟨.us (.byt l),false⟩,⟨.blk [.v (.int .i64 a)],false⟩]=>some ([],svV (.bool (x==a)),[⟨.us (.byt l),false⟩,⟨.blk [.v (.int .i64 a)],false⟩])
 |_,_=>none
set_option maxRecDepth 100000 in
theorem C_ncl_ok:CtrOk Try.prog Id' 97 C_ncl:=by
 intro us sub ps x sm h hp w e vs hM ha
 unfold C_ncl at h
 split at h
 ·rename_i x l a
  simp only [Option.some.injEq,Prod.mk.injEq] at h
  obtain ⟨rfl,rfl,rfl⟩:=h
  exact ctr_way (I:=Id') (fun (W0:World) (G:Nat→Prop)=>SyOk.mk2 Try.mixed dkHo_ok (FnsR.nil) EqsOk.nil) rfl Try.func97 (by kernel_rfl) (fun W0 G=>LpsOk.nil _) (cs:=[]) (by kernel_rfl) (ncl_w0 x l a ) w e vs hM ha
 ·cases h
theorem R_ncl:RowOk Try.prog Id' hardD 97 (ctrF Id' C_ncl hardD):=ctrF_ok Try.call97 C_ncl_ok
def pkI (Q:List (Int×List UInt8)) (a:Int) (i:Int):Bool:=!((Q.getD i.toNat (0,[])).1==a)
theorem pkI_no {Q:List (Int×List UInt8)} {a i:Int} (h:pkI Q a i=true):((Q.getD i.toNat (0,[])).1==a)=false:=by simpa [pkI] using h
theorem pkI_yes {Q:List (Int×List UInt8)} {a i:Int} (h:pkI Q a i=false):((Q.getD i.toNat (0,[])).1==a)=true:=by
 unfold pkI at h
 revert h
 cases ((Q.getD i.toNat (0,[])).1==a)<;>intro h<;>first|rfl|cases h
end Go.Proofs.Ytdenmoiaiemokaa
