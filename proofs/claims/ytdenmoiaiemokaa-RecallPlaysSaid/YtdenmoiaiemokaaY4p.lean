/- Y4. -/
import Derived.Test.YtdenmoiaiemokaaY3p
import Derived.Test.YtdenmoiaiemokaaH13p
set_option maxRecDepth 100000
set_option linter.unusedSimpArgs false
set_option linter.unusedVariables false
namespace Go.Proofs.Ytdenmoiaiemokaa
open Go.RowKit
def holS (T:List ((Int×Int)×Int)) (a b:Int):Nat→List Int
 |0=>[]
 |k+1=>bif mdE T a b (k:Int) != 0 then holS T a b k++[(k:Int)] else holS T a b k
theorem holS_len (T:List ((Int×Int)×Int)) (a b:Int):∀ k,(holS T a b k).length≤k
 |0=>Nat.le_refl _
 |k+1=>by
  have:=holS_len T a b k
  unfold holS
  cases mdE T a b (k:Int) != 0 with
  |true=>simp only [cond_true,List.length_append,List.length_cons,List.length_nil];omega
  |false=>simp only [cond_false];omega
theorem holS_yes (T:List ((Int×Int)×Int)) (a b:Int) {k:Nat} (h:(mdE T a b (k:Int) != 0)=true):holS T a b (k+1)=holS T a b k++[(k:Int)]:=by rw [holS,h];rfl
theorem holS_no (T:List ((Int×Int)×Int)) (a b:Int) {k:Nat} (h:(mdE T a b (k:Int) != 0)=false):holS T a b (k+1)=holS T a b k:=by rw [holS,h];rfl
theorem hol_n1 (T:List ((Int×Int)×Int)) (a b:Int) (X Y:List Int) (k:Nat) (f:Nat→Value) (h0:(decide ((k:Int)<8))=true) (h1:IntKind.i64.wrap ((k:Int)+1)=((k+1:Nat):Int)) (h2:k<8) (h3:(mdE T a b (k:Int) != 0)=true) (h4:X++[(k:Int)]=Y) (h5:X.length≤100000):∃ qs,alN Id' 3 [(5,.c (.one (.obj 3))),(7,.c (.one (.v (.int .i64 ((k+1:Nat):Int)))))] [⟨.bx [.obj 1],true⟩,⟨.us (.ext (.mp T)),true⟩,⟨.blk [.v (.int .i64 a),.v (.int .i64 b)],true⟩,⟨.us (.ins Y),true⟩] ((symC (⟨Try.prog,[(43,ctrV C_tmd hardD)],[],dkHo,Id'.one,60⟩:Sy Td) [] 21 (hdC (loopsC (bodyOf Try.f103)) 0) ⟨[(5,.c (.one (.obj 3))),(7,.c (.one (.v (.int .i64 (k:Int)))))]++anyB' (writesC (hdC (loopsC (bodyOf Try.f103)) 0)) ([(0,.c (.one (.ptr 0 0))),(3,.c (.one (.ptr 2 0)))]++tabV f 21),[⟨.bx [.obj 1],true⟩,⟨.us (.ext (.mp T)),true⟩,⟨.blk [.v (.int .i64 a),.v (.int .i64 b)],true⟩,⟨.us (.ins X),true⟩],0⟩).al [true,true])=some qs∧∀ q∈qs,q:=
 ⟨[decide ((↑k:Int)<(8:Int))=true,(mdE T a b (↑k:Int) != (0:Int))=true,X.length+[(↑k:Int)].length≤(1000000:Nat),(Th.ext (Dk.mp T):Td)=Th.ext (Dk.mp T),Value.int IntKind.i64 a=Value.int IntKind.i64 a,Value.int IntKind.i64 b=Value.int IntKind.i64 b,(Th.ins (X++[(k:Int)]):Td)=Th.ins Y,Value.int IntKind.i64 (IntKind.i64.wrap ((↑k:Int)+(1:Int)))=Value.int IntKind.i64 (↑(k+(1:Nat)):Int)],by kernel_rfl,(by refine mcons ?_ (mcons ?_ (mcons ?_ (mcons ?_ (mcons ?_ (mcons ?_ (mcons ?_ (mcons ?_ mnil)))))))<;>first|rfl|exact h0|exact h1|exact h2|exact h3|exact h4|exact h5|trivial|(exact congrArg (fun x=>(Th.ins x:Td)) h4)|(exact congrArg (Value.int .i64) h1)|(show X.length+1≤1000000;omega)|(exact congrArg (fun x=>(Th.ins x:Td)) h1))⟩
theorem hol_n2 (T:List ((Int×Int)×Int)) (a b:Int) (X Y:List Int) (k:Nat) (f:Nat→Value) (h0:(decide ((k:Int)<8))=true) (h1:IntKind.i64.wrap ((k:Int)+1)=((k+1:Nat):Int)) (h2:k<8) (h3:(mdE T a b (k:Int) != 0)=false) (h4:X=Y):∃ qs,alN Id' 3 [(5,.c (.one (.obj 3))),(7,.c (.one (.v (.int .i64 ((k+1:Nat):Int)))))] [⟨.bx [.obj 1],true⟩,⟨.us (.ext (.mp T)),true⟩,⟨.blk [.v (.int .i64 a),.v (.int .i64 b)],true⟩,⟨.us (.ins Y),true⟩] ((symC (⟨Try.prog,[(43,ctrV C_tmd hardD)],[],dkHo,Id'.one,60⟩:Sy Td) [] 21 (hdC (loopsC (bodyOf Try.f103)) 0) ⟨[(5,.c (.one (.obj 3))),(7,.c (.one (.v (.int .i64 (k:Int)))))]++anyB' (writesC (hdC (loopsC (bodyOf Try.f103)) 0)) ([(0,.c (.one (.ptr 0 0))),(3,.c (.one (.ptr 2 0)))]++tabV f 21),[⟨.bx [.obj 1],true⟩,⟨.us (.ext (.mp T)),true⟩,⟨.blk [.v (.int .i64 a),.v (.int .i64 b)],true⟩,⟨.us (.ins X),true⟩],0⟩).al [true,false])=some qs∧∀ q∈qs,q:=
 ⟨[decide ((↑k:Int)<(8:Int))=true,(mdE T a b (↑k:Int) != (0:Int))=false,(Th.ext (Dk.mp T):Td)=Th.ext (Dk.mp T),Value.int IntKind.i64 a=Value.int IntKind.i64 a,Value.int IntKind.i64 b=Value.int IntKind.i64 b,(Th.ins X:Td)=Th.ins Y,Value.int IntKind.i64 (IntKind.i64.wrap ((↑k:Int)+(1:Int)))=Value.int IntKind.i64 (↑(k+(1:Nat)):Int)],by kernel_rfl,(by refine mcons ?_ (mcons ?_ (mcons ?_ (mcons ?_ (mcons ?_ (mcons ?_ (mcons ?_ mnil))))))<;>first|rfl|exact h0|exact h1|exact h2|exact h3|exact h4|trivial|(exact congrArg (fun x=>(Th.ins x:Td)) h4)|(exact congrArg (Value.int .i64) h1)|(show X.length+1≤1000000;omega)|(exact congrArg (fun x=>(Th.ins x:Td)) h1))⟩
theorem hol_x (T:List ((Int×Int)×Int)) (a b:Int) (X Y:List Int) (k:Nat) (f:Nat→Value) (h0:(decide ((k:Int)<8))=false) (h1:X=Y):∃ qs,alX Id' 3 0 [(5,.c (.one (.obj 3)))] [⟨.bx [.obj 1],true⟩,⟨.us (.ext (.mp T)),true⟩,⟨.blk [.v (.int .i64 a),.v (.int .i64 b)],true⟩,⟨.us (.ins Y),true⟩] ((symC (⟨Try.prog,[(43,ctrV C_tmd hardD)],[],dkHo,Id'.one,60⟩:Sy Td) [] 21 (hdC (loopsC (bodyOf Try.f103)) 0) ⟨[(5,.c (.one (.obj 3))),(7,.c (.one (.v (.int .i64 (k:Int)))))]++anyB' (writesC (hdC (loopsC (bodyOf Try.f103)) 0)) ([(0,.c (.one (.ptr 0 0))),(3,.c (.one (.ptr 2 0)))]++tabV f 21),[⟨.bx [.obj 1],true⟩,⟨.us (.ext (.mp T)),true⟩,⟨.blk [.v (.int .i64 a),.v (.int .i64 b)],true⟩,⟨.us (.ins X),true⟩],0⟩).al [false])=some qs∧∀ q∈qs,q:=
 ⟨[decide ((↑k:Int)<(8:Int))=false,(Th.ext (Dk.mp T):Td)=Th.ext (Dk.mp T),Value.int IntKind.i64 a=Value.int IntKind.i64 a,Value.int IntKind.i64 b=Value.int IntKind.i64 b,(Th.ins X:Td)=Th.ins Y],by kernel_rfl,(by refine mcons ?_ (mcons ?_ (mcons ?_ (mcons ?_ (mcons ?_ mnil))))<;>first|rfl|exact h0|exact h1|trivial|(exact congrArg (fun x=>(Th.ins x:Td)) h4)|(exact congrArg (Value.int .i64) h1)|(show X.length+1≤1000000;omega)|(exact congrArg (fun x=>(Th.ins x:Td)) h1))⟩
theorem hol_lp (T:List ((Int×Int)×Int)) (a b:Int)  {W0:World} {G:Nat→Prop} (S0:Sy Td) (hS0:S0.P=Try.prog):LoopSound S0 Id' W0 G 21 (hdC (loopsC (bodyOf Try.f103)) 0) (lpG Id' 21 (hdC (loopsC (bodyOf Try.f103)) 0) 3 [(5,.c (.one (.obj 3))),(7,.c (.one (.v (.int .i64 ((0:Nat):Int)))))] [(0,.c (.one (.ptr 0 0))),(3,.c (.one (.ptr 2 0)))] [⟨.bx [.obj 1],true⟩,⟨.us (.ext (.mp T)),true⟩,⟨.blk [.v (.int .i64 a),.v (.int .i64 b)],true⟩,⟨.us (.ins (holS T a b 0)),true⟩] (.leaf (.exit 0) [(5,.c (.one (.obj 3)))] [⟨.bx [.obj 1],true⟩,⟨.us (.ext (.mp T)),true⟩,⟨.blk [.v (.int .i64 a),.v (.int .i64 b)],true⟩,⟨.us (.ins (holS T a b 8)),true⟩])):=by
 refine lp_sound (V:=fun k=>[(5,.c (.one (.obj 3))),(7,.c (.one (.v (.int .i64 (k:Int)))))]) (M:=(fun k=>[⟨.bx [.obj 1],true⟩,⟨.us (.ext (.mp T)),true⟩,⟨.blk [.v (.int .i64 a),.v (.int .i64 b)],true⟩,⟨.us (.ins (holS T a b k)),true⟩]:Nat→Mem Td)) (N:=8) (Ux:=fun k x=>match x with|.exit 0=>some ([(5,.c (.one (.obj 3)))],([⟨.bx [.obj 1],true⟩,⟨.us (.ext (.mp T)),true⟩,⟨.blk [.v (.int .i64 a),.v (.int .i64 b)],true⟩,⟨.us (.ins (holS T a b 8)),true⟩]:Mem Td))|_=>none) (X:=fun _ _=>True) (J:=fun k=>k≤8) (fun k=>by kernel_rfl) (Nat.zero_le _) (fun k hk hJ f=>?_) (fun K hK k x U hk hU hX=>?_)
 ·rw [hS0]
  have hXl:=holS_len T a b k
  cases hT:(decide ((k:Int)<8)) with
  |false=>
   have hk1:k=8:=by have:=of_decide_eq_false hT;omega
   exact rnd_xD (⟨Try.prog,[(43,ctrV C_tmd hardD)],[],dkHo,Id'.one,60⟩:Sy Td) rfl ((fun (W0:World) (G:Nat→Prop)=>SyOk.mk2 Try.mixed dkHo_ok (FnsR.cons (R_tmd) (FnsR.nil)) EqsOk.nil) W0 G) (hol_x T a b _ _ k f hT (by rw [hk1])) rfl trivial
  |true=>
   have hk1:k<8:=by have:=of_decide_eq_true hT;omega
   have hW:IntKind.i64.wrap ((k:Int)+1)=((k+1:Nat):Int):=by rw [IntWalk.i64_in _ (by omega)];omega
   cases hE:(mdE T a b (k:Int) != 0) with
   |true=>exact rnd_nD (⟨Try.prog,[(43,ctrV C_tmd hardD)],[],dkHo,Id'.one,60⟩:Sy Td) rfl ((fun (W0:World) (G:Nat→Prop)=>SyOk.mk2 Try.mixed dkHo_ok (FnsR.cons (R_tmd) (FnsR.nil)) EqsOk.nil) W0 G) (hol_n1 T a b _ _ k f hT hW hk1 hE (holS_yes T a b hE).symm (by omega)) rfl rfl (by omega) (by omega)
   |false=>exact rnd_nD (⟨Try.prog,[(43,ctrV C_tmd hardD)],[],dkHo,Id'.one,60⟩:Sy Td) rfl ((fun (W0:World) (G:Nat→Prop)=>SyOk.mk2 Try.mixed dkHo_ok (FnsR.cons (R_tmd) (FnsR.nil)) EqsOk.nil) W0 G) (hol_n2 T a b _ _ k f hT hW hk1 hE (holS_no T a b hE).symm) rfl rfl (by omega) (by omega)
 ·revert hU
  match x with
  |.exit 0=>intro hU;simp only [Option.some.injEq] at hU;subst hU;exact hK
  |.normal=>intro hU;cases hU
  |.ret=>intro hU;cases hU
  |.exit (n+1)=>intro hU;cases hU
theorem hol_w0 (T:List ((Int×Int)×Int)) (a b:Int) :∃ qs,wayO Id' ([⟨.bx [.obj 1],true⟩,⟨.us (.ext (.mp T)),true⟩]:Mem Td).length [⟨.bx [.obj 1],true⟩,⟨.us (.ext (.mp T)),true⟩,⟨.us (.ins (holS T a b 8)),true⟩] (.c (.one (.obj 2))) ((runFn (⟨Try.prog,[(43,ctrV C_tmd hardD)],[],dkHo,Id'.one,60⟩:Sy Td) [(3,(lpG Id' 21 (hdC (loopsC (bodyOf Try.f103)) 0) 3 [(5,.c (.one (.obj 3))),(7,.c (.one (.v (.int .i64 ((0:Nat):Int)))))] [(0,.c (.one (.ptr 0 0))),(3,.c (.one (.ptr 2 0)))] [⟨.bx [.obj 1],true⟩,⟨.us (.ext (.mp T)),true⟩,⟨.blk [.v (.int .i64 a),.v (.int .i64 b)],true⟩,⟨.us (.ins (holS T a b 0)),true⟩] (.leaf (.exit 0) [(5,.c (.one (.obj 3)))] [⟨.bx [.obj 1],true⟩,⟨.us (.ext (.mp T)),true⟩,⟨.blk [.v (.int .i64 a),.v (.int .i64 b)],true⟩,⟨.us (.ins (holS T a b 8)),true⟩])))] Try.f103 [.one (.ptr 0 0),.agg [.v (.int .i64 a),.v (.int .i64 b)]] [⟨.bx [.obj 1],true⟩,⟨.us (.ext (.mp T)),true⟩]).al [])=some qs∧∀ q∈qs,q:=
 ⟨[(Th.ext (Dk.mp T):Td)=Th.ext (Dk.mp T),Value.int IntKind.i64 a=Value.int IntKind.i64 a,Value.int IntKind.i64 b=Value.int IntKind.i64 b,∀ (w:World),Id'.holds (Th.ins (holS T a b (0:Nat))) w nilV∧∀ (j:Nat),¬Id'.foot (Th.ins (holS T a b (0:Nat))) w nilV j,Value.int IntKind.i64 (Int.ofNat 0)=Value.int IntKind.i64 (Int.ofNat (0:Nat)),(Th.ext (Dk.mp T):Td)=Th.ext (Dk.mp T),(Th.ins (holS T a b (8:Nat)):Td)=Th.ins (holS T a b (8:Nat))],by kernel_rfl,(by refine mcons ?_ (mcons ?_ (mcons ?_ (mcons ?_ (mcons ?_ (mcons ?_ (mcons ?_ mnil))))))<;>first|rfl|trivial|(exact nil_ins dkI))⟩
def C_hol:Ctr Td:=fun us sub=>match us,sub with
 |[.one (.ptr 0 0),.agg [.v (.int .i64 a),.v (.int .i64 b)]],[⟨.bx [.obj 1],true⟩,⟨.us (.ext (.mp T)),true⟩]=>some ([],.c (.one (.obj 2)),[⟨.bx [.obj 1],true⟩,⟨.us (.ext (.mp T)),true⟩,⟨.us (.ins (holS T a b 8)),true⟩])
 |_,_=>none
theorem C_hol_ok:CtrOk Try.prog Id' 103 C_hol:=by
 intro us sub ps x sm h hp w e vs hM ha
 unfold C_hol at h
 split at h
 ·rename_i a b T
  simp only [Option.some.injEq,Prod.mk.injEq] at h
  obtain ⟨rfl,rfl,rfl⟩:=h
  exact ctr_way (I:=Id') (fun (W0:World) (G:Nat→Prop)=>SyOk.mk2 Try.mixed dkHo_ok (FnsR.cons (R_tmd) (FnsR.nil)) EqsOk.nil) rfl Try.func103 (by kernel_rfl) (fun W0 G=>LpsOk.cons (by kernel_rfl) (hol_lp T a b _ rfl) (LpsOk.nil _)) (cs:=[]) (by kernel_rfl) (hol_w0 T a b ) w e vs hM ha
 ·cases h
theorem R_hol:RowOk Try.prog Id' hardD 103 (ctrF Id' C_hol hardD):=ctrF_ok Try.call103 C_hol_ok
end Go.Proofs.Ytdenmoiaiemokaa
