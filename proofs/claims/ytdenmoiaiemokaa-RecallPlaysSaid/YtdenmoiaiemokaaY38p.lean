/- Y22 Y23 Y24 W17 W18 W19 W20 W21 W22 W23 W24 W25 W26 W27 W28 W29 W30 W31 W32 W33 W34 W35 W36 W37 W56 Y25 Y26 Y27 Y28 Y29 Y30 Y31 Y32 HV Y33 Y34 W57 W58 W59 W60 W61 Y38. -/
import Derived.Test.YtdenmoiaiemokaaY21p
import Derived.Test.YtdenmoiaiemokaaH13p
import Derived.Test.YtdenmoiaiemokaaY13p
import Derived.Test.YtdenmoiaiemokaaT19p
set_option maxRecDepth 100000
set_option linter.unusedSimpArgs false
set_option linter.unusedVariables false
namespace Go.Proofs.Ytdenmoiaiemokaa
open Go.RowKit
theorem pne_n (Z:List ((Int×Int)×Int)) (a b:Int) (L:List Int) (X Xn:List Rw) (n nn:Int) (k:Nat) (f:Nat→Value) (h0:decide ((k:Int)<(L.length:Int))=true) (h1:IntKind.i64.wrap ((k:Int)+1)=((k+1:Nat):Int)) (h2:k<L.length) (h3:True) (h4:wtT X a b (L.getD k 0)=Xn) (h5:(bif wtE X a b (L.getD k 0)==0 then IntKind.i64.wrap (n+1) else n)=nn) (h6:X.length≤10000):∃ qs,alN Id' 6 [(11,.c (.one (.v (.int .i64 nn)))),(20,.c (.one (.v (.int .i64 ((k+1:Nat):Int)))))] [⟨.bx [.obj 6],true⟩,⟨.bx [.obj 3],true⟩,⟨.dead,true⟩,⟨.us (.ext (.mp Z)),true⟩,⟨.blk [.v (.int .i64 a),.v (.int .i64 b)],true⟩,⟨.us (.ins L),true⟩,⟨.us (.ext (.flat (.rw 72 [false,false,false] Xn))),true⟩] ((symC (⟨Try.prog,[(35,ctrF Id' C_pwt hardD)],[],dkHo,Id'.one,60⟩:Sy Td) [] 33 (hdC (loopsC (bodyOf Try.f40)) 0) ⟨[(11,.c (.one (.v (.int .i64 n)))),(20,.c (.one (.v (.int .i64 (k:Int)))))]++anyB' (writesC (hdC (loopsC (bodyOf Try.f40)) 0)) ([(0,.c (.one (.ptr 0 0))),(7,.c (.one (.ptr 4 0))),(18,.c (.one (.obj 5))),(19,.c (.one (.v (.int .i64 (L.length:Int)))))]++tabV f 33),[⟨.bx [.obj 6],true⟩,⟨.bx [.obj 3],true⟩,⟨.dead,true⟩,⟨.us (.ext (.mp Z)),true⟩,⟨.blk [.v (.int .i64 a),.v (.int .i64 b)],true⟩,⟨.us (.ins L),true⟩,⟨.us (.ext (.flat (.rw 72 [false,false,false] X))),true⟩],0⟩).al [true])=some qs∧∀ q∈qs,q:=
 ⟨[decide ((↑k:Int)<(↑L.length:Int))=true,(0:Int)≤(↑k:Int)∧(↑k:Int).toNat<L.length,X.length≤(10000:Nat),(Th.ext (Dk.mp Z):Td)=Th.ext (Dk.mp Z),Value.int IntKind.i64 a=Value.int IntKind.i64 a,Value.int IntKind.i64 b=Value.int IntKind.i64 b,(Th.ins L:Td)=Th.ins L,(Th.ext (Dk.flat (FL.rw 72 [false,false,false] (wtT X a b (L.getD (↑k:Int).toNat (0:Int))))):Td)=Th.ext (Dk.flat (FL.rw 72 [false,false,false] Xn)),Value.int IntKind.i64 (bif wtE X a b (L.getD (↑k:Int).toNat (0:Int))==(0:Int) then IntKind.i64.wrap (n+(1:Int)) else n)=Value.int IntKind.i64 nn,Value.int IntKind.i64 (IntKind.i64.wrap ((↑k:Int)+(1:Int)))=Value.int IntKind.i64 (↑(k+(1:Nat)):Int)],by kernel_rfl,(by refine mcons ?_ (mcons ?_ (mcons ?_ (mcons ?_ (mcons ?_ (mcons ?_ (mcons ?_ (mcons ?_ (mcons ?_ (mcons ?_ mnil)))))))))<;>first|rfl|exact h0|exact h1|exact h2|exact h3|exact h4|exact h5|exact h6|trivial|(exact congrArg (fun x=>(Th.ext (Dk.flat (FL.rw 72 [false,false,false] x)):Td)) h4)|(exact congrArg (Value.int .i64) h1)|(exact congrArg (Value.int .i64) h5)|(exact ⟨by omega,by show (k:Int).toNat<L.length;omega⟩))⟩
theorem pne_x (Z:List ((Int×Int)×Int)) (a b:Int) (L:List Int) (X Xn:List Rw) (n nn:Int) (k:Nat) (f:Nat→Value) (h0:decide ((k:Int)<(L.length:Int))=false):∃ qs,alX Id' 6 0 [(11,.c (.one (.v (.int .i64 n))))] [⟨.bx [.obj 6],true⟩,⟨.bx [.obj 3],true⟩,⟨.dead,true⟩,⟨.us (.ext (.mp Z)),true⟩,⟨.blk [.v (.int .i64 a),.v (.int .i64 b)],true⟩,⟨.us (.ins L),true⟩,⟨.us (.ext (.flat (.rw 72 [false,false,false] X))),true⟩] ((symC (⟨Try.prog,[(35,ctrF Id' C_pwt hardD)],[],dkHo,Id'.one,60⟩:Sy Td) [] 33 (hdC (loopsC (bodyOf Try.f40)) 0) ⟨[(11,.c (.one (.v (.int .i64 n)))),(20,.c (.one (.v (.int .i64 (k:Int)))))]++anyB' (writesC (hdC (loopsC (bodyOf Try.f40)) 0)) ([(0,.c (.one (.ptr 0 0))),(7,.c (.one (.ptr 4 0))),(18,.c (.one (.obj 5))),(19,.c (.one (.v (.int .i64 (L.length:Int)))))]++tabV f 33),[⟨.bx [.obj 6],true⟩,⟨.bx [.obj 3],true⟩,⟨.dead,true⟩,⟨.us (.ext (.mp Z)),true⟩,⟨.blk [.v (.int .i64 a),.v (.int .i64 b)],true⟩,⟨.us (.ins L),true⟩,⟨.us (.ext (.flat (.rw 72 [false,false,false] X))),true⟩],0⟩).al [false])=some qs∧∀ q∈qs,q:=
 ⟨[decide ((↑k:Int)<(↑L.length:Int))=false,(Th.ext (Dk.mp Z):Td)=Th.ext (Dk.mp Z),Value.int IntKind.i64 a=Value.int IntKind.i64 a,Value.int IntKind.i64 b=Value.int IntKind.i64 b,(Th.ins L:Td)=Th.ins L,(Th.ext (Dk.flat (FL.rw 72 [false,false,false] X)):Td)=Th.ext (Dk.flat (FL.rw 72 [false,false,false] X)),Value.int IntKind.i64 n=Value.int IntKind.i64 n],by kernel_rfl,(by refine mcons ?_ (mcons ?_ (mcons ?_ (mcons ?_ (mcons ?_ (mcons ?_ (mcons ?_ mnil))))))<;>first|rfl|exact h0|trivial|(exact congrArg (fun x=>(Th.ext (Dk.flat (FL.rw 72 [false,false,false] x)):Td)) h4)|(exact congrArg (Value.int .i64) h1)|(exact congrArg (Value.int .i64) h5)|(exact ⟨by omega,by show (k:Int).toNat<L.length;omega⟩))⟩
theorem pne_lp (Y:List Rw) (Z:List ((Int×Int)×Int)) (a b:Int) (L:List Int) (hY:Y.length≤9000) (hL:L.length≤8) {W0:World} {G:Nat→Prop} (S0:Sy Td) (hS0:S0.P=Try.prog):LoopSound S0 Id' W0 G 33 (hdC (loopsC (bodyOf Try.f40)) 0) (lpG Id' 33 (hdC (loopsC (bodyOf Try.f40)) 0) 6 [(11,.c (.one (.v (.int .i64 (neS Y a b L 0).2)))),(20,.c (.one (.v (.int .i64 ((0:Nat):Int)))))] [(0,.c (.one (.ptr 0 0))),(7,.c (.one (.ptr 4 0))),(18,.c (.one (.obj 5))),(19,.c (.one (.v (.int .i64 (L.length:Int)))))] [⟨.bx [.obj 6],true⟩,⟨.bx [.obj 3],true⟩,⟨.dead,true⟩,⟨.us (.ext (.mp Z)),true⟩,⟨.blk [.v (.int .i64 a),.v (.int .i64 b)],true⟩,⟨.us (.ins L),true⟩,⟨.us (.ext (.flat (.rw 72 [false,false,false] (neS Y a b L 0).1))),true⟩] (.leaf (.exit 0) [(11,.c (.one (.v (.int .i64 (neS Y a b L L.length).2))))] [⟨.bx [.obj 6],true⟩,⟨.bx [.obj 3],true⟩,⟨.dead,true⟩,⟨.us (.ext (.mp Z)),true⟩,⟨.blk [.v (.int .i64 a),.v (.int .i64 b)],true⟩,⟨.us (.ins L),true⟩,⟨.us (.ext (.flat (.rw 72 [false,false,false] (neS Y a b L L.length).1))),true⟩])):=by
 refine lp_sound (V:=fun k=>[(11,.c (.one (.v (.int .i64 (neS Y a b L k).2)))),(20,.c (.one (.v (.int .i64 ((k:Nat):Int)))))]) (M:=(fun k=>[⟨.bx [.obj 6],true⟩,⟨.bx [.obj 3],true⟩,⟨.dead,true⟩,⟨.us (.ext (.mp Z)),true⟩,⟨.blk [.v (.int .i64 a),.v (.int .i64 b)],true⟩,⟨.us (.ins L),true⟩,⟨.us (.ext (.flat (.rw 72 [false,false,false] (neS Y a b L k).1))),true⟩]:Nat→Mem Td)) (N:=L.length) (Ux:=fun k x=>match x with|.exit 0=>some ([(11,.c (.one (.v (.int .i64 (neS Y a b L L.length).2))))],([⟨.bx [.obj 6],true⟩,⟨.bx [.obj 3],true⟩,⟨.dead,true⟩,⟨.us (.ext (.mp Z)),true⟩,⟨.blk [.v (.int .i64 a),.v (.int .i64 b)],true⟩,⟨.us (.ins L),true⟩,⟨.us (.ext (.flat (.rw 72 [false,false,false] (neS Y a b L L.length).1))),true⟩]:Mem Td))|_=>none) (X:=fun _ _=>True) (J:=fun k=>k≤L.length) (fun k=>by kernel_rfl) (Nat.zero_le _) (fun k hk hJ f=>?_) (fun K hK k x U hk hU hX=>?_)
 ·rw [hS0]
  obtain ⟨hl1,hl2,hl3⟩:=neS_len Y a b L k
  cases hT:decide ((k:Int)<(L.length:Int)) with
  |false=>
   have hke:k=L.length:=by have:=of_decide_eq_false hT;omega
   subst hke
   exact rnd_xD (⟨Try.prog,[(35,ctrF Id' C_pwt hardD)],[],dkHo,Id'.one,60⟩:Sy Td) rfl ((fun (W0:World) (G:Nat→Prop)=>SyOk.mk2 Try.mixed dkHo_ok (FnsR.cons (R_pwt) (FnsR.nil)) EqsOk.nil) W0 G) (pne_x Z a b L _ [] _ 0 _ f hT) rfl trivial
  |true=>
   have hk1:k<L.length:=by have:=of_decide_eq_true hT;omega
   have hW:IntKind.i64.wrap ((k:Int)+1)=((k+1:Nat):Int):=by rw [IntWalk.i64_in _ (by omega)];omega
   have hs:(bif wtE (neS Y a b L k).1 a b (L.getD k 0)==0 then IntKind.i64.wrap ((neS Y a b L k).2+1) else (neS Y a b L k).2)=(neS Y a b L (k+1)).2:=by
    show _=(bif _ then _ else _)
    rw [IntWalk.i64_in _ (by omega)]
   exact rnd_nD (⟨Try.prog,[(35,ctrF Id' C_pwt hardD)],[],dkHo,Id'.one,60⟩:Sy Td) rfl ((fun (W0:World) (G:Nat→Prop)=>SyOk.mk2 Try.mixed dkHo_ok (FnsR.cons (R_pwt) (FnsR.nil)) EqsOk.nil) W0 G) (pne_n Z a b L (neS Y a b L k).1 (neS Y a b L (k+1)).1 (neS Y a b L k).2 (neS Y a b L (k+1)).2 k f hT hW hk1 trivial rfl hs (by omega)) rfl rfl (by omega) (by omega)
 ·revert hU
  match x with
  |.exit 0=>intro hU;simp only [Option.some.injEq] at hU;subst hU;exact hK
  |.normal=>intro hU;cases hU
  |.ret=>intro hU;cases hU
  |.exit (n+1)=>intro hU;cases hU
def pnE (Y:List Rw) (Z:List ((Int×Int)×Int)) (a b cl md:Int):List Rw×Int:=neS Y a b (othE Z a b cl md) (othE Z a b cl md).length
theorem pne_w0 (Y:List Rw) (Z:List ((Int×Int)×Int)) (a b cl md:Int) (h0:Y.length≤9000):∃ qs,wayO Id' ([⟨.bx [.obj 2],true⟩,⟨.bx [.obj 3],true⟩,⟨.us (.ext (.flat (.rw 72 [false,false,false] Y))),true⟩,⟨.us (.ext (.mp Z)),true⟩]:Mem Td).length [⟨.bx [.obj 4],true⟩,⟨.bx [.obj 3],true⟩,⟨.dead,true⟩,⟨.us (.ext (.mp Z)),true⟩,⟨.us (.ext (.flat (.rw 72 [false,false,false] (pnE Y Z a b cl md).1))),true⟩] (.c (.one (.v (.int .i64 (pnE Y Z a b cl md).2)))) ((runFn (⟨Try.prog,[(35,ctrF Id' C_pwt hardD),(39,ctrF Id' C_oth hardD)],[],dkHo,Id'.one,60⟩:Sy Td) [(3,(lpG Id' 33 (hdC (loopsC (bodyOf Try.f40)) 0) 6 [(11,.c (.one (.v (.int .i64 (neS Y a b (othE Z a b cl md) 0).2)))),(20,.c (.one (.v (.int .i64 ((0:Nat):Int)))))] [(0,.c (.one (.ptr 0 0))),(7,.c (.one (.ptr 4 0))),(18,.c (.one (.obj 5))),(19,.c (.one (.v (.int .i64 ((othE Z a b cl md).length:Int)))))] [⟨.bx [.obj 6],true⟩,⟨.bx [.obj 3],true⟩,⟨.dead,true⟩,⟨.us (.ext (.mp Z)),true⟩,⟨.blk [.v (.int .i64 a),.v (.int .i64 b)],true⟩,⟨.us (.ins (othE Z a b cl md)),true⟩,⟨.us (.ext (.flat (.rw 72 [false,false,false] (neS Y a b (othE Z a b cl md) 0).1))),true⟩] (.leaf (.exit 0) [(11,.c (.one (.v (.int .i64 (neS Y a b (othE Z a b cl md) (othE Z a b cl md).length).2))))] [⟨.bx [.obj 6],true⟩,⟨.bx [.obj 3],true⟩,⟨.dead,true⟩,⟨.us (.ext (.mp Z)),true⟩,⟨.blk [.v (.int .i64 a),.v (.int .i64 b)],true⟩,⟨.us (.ins (othE Z a b cl md)),true⟩,⟨.us (.ext (.flat (.rw 72 [false,false,false] (neS Y a b (othE Z a b cl md) (othE Z a b cl md).length).1))),true⟩])))] Try.f40 [.one (.ptr 0 0),.one (.ptr 1 0),.agg [.v (.int .i64 a),.v (.int .i64 b)],.one (.v (.int .i64 cl)),.one (.v (.int .i64 md))] [⟨.bx [.obj 2],true⟩,⟨.bx [.obj 3],true⟩,⟨.us (.ext (.flat (.rw 72 [false,false,false] Y))),true⟩,⟨.us (.ext (.mp Z)),true⟩]).al [])=some qs∧∀ q∈qs,q:=
 ⟨[Value.int IntKind.i64 (↑(othE Z a b cl md).length:Int)=Value.int IntKind.i64 (↑(othE Z a b cl md).length:Int),(Th.ext (Dk.mp Z):Td)=Th.ext (Dk.mp Z),Value.int IntKind.i64 a=Value.int IntKind.i64 a,Value.int IntKind.i64 b=Value.int IntKind.i64 b,(Th.ins (Nat.brecOn.go (holS Z a b (8:Nat)).length (othS._f Z a b cl md (holS Z a b (8:Nat)))).1:Td)=Th.ins (Nat.brecOn.go (holS Z a b (8:Nat)).length (othS._f Z a b cl md (holS Z a b (8:Nat)))).1,(Th.ext (Dk.flat (FL.rw 72 [false,false,false] Y)):Td)=Th.ext (Dk.flat (FL.rw 72 [false,false,false] Y)),Value.int IntKind.i64 (Int.ofNat 0)=Value.int IntKind.i64 (neS Y a b (othE Z a b cl md) (0:Nat)).snd,Value.int IntKind.i64 (Int.ofNat 0)=Value.int IntKind.i64 (Int.ofNat (0:Nat)),(Th.ext (Dk.mp Z):Td)=Th.ext (Dk.mp Z),(Th.ext (Dk.flat (FL.rw 72 [false,false,false] (neS Y a b (othE Z a b cl md) (othE Z a b cl md).length).1)):Td)=Th.ext (Dk.flat (FL.rw 72 [false,false,false] (pnE Y Z a b cl md).1)),Value.int IntKind.i64 (neS Y a b (othE Z a b cl md) (othE Z a b cl md).length).snd=Value.int IntKind.i64 (pnE Y Z a b cl md).snd],by kernel_rfl,(by refine mcons ?_ (mcons ?_ (mcons ?_ (mcons ?_ (mcons ?_ (mcons ?_ (mcons ?_ (mcons ?_ (mcons ?_ (mcons ?_ (mcons ?_ mnil))))))))))<;>first|rfl|exact h0|trivial)⟩
def C_pne:Ctr Td:=fun us sub=>match us,sub with
 |[.one (.ptr 0 0),.one (.ptr 1 0),.agg [.v (.int .i64 a),.v (.int .i64 b)],.one (.v (.int .i64 cl)),.one (.v (.int .i64 md))],[⟨.bx [.obj 2],true⟩,⟨.bx [.obj 3],true⟩,⟨.us (.ext (.flat (.rw 72 [false,false,false] Y))),true⟩,⟨.us (.ext (.mp Z)),true⟩]=>some ([Y.length≤9000],.c (.one (.v (.int .i64 (pnE Y Z a b cl md).2))),[⟨.bx [.obj 4],true⟩,⟨.bx [.obj 3],true⟩,⟨.dead,true⟩,⟨.us (.ext (.mp Z)),true⟩,⟨.us (.ext (.flat (.rw 72 [false,false,false] (pnE Y Z a b cl md).1))),true⟩])
 |_,_=>none
theorem C_pne_ok:CtrOk Try.prog Id' 40 C_pne:=by
 intro us sub ps x sm h hp w e vs hM ha
 unfold C_pne at h
 split at h
 ·rename_i a b cl md Y Z
  simp only [Option.some.injEq,Prod.mk.injEq] at h
  obtain ⟨rfl,rfl,rfl⟩:=h
  have h0:=hp _ ((List.mem_cons_self ..))
  exact ctr_way (I:=Id') (fun (W0:World) (G:Nat→Prop)=>SyOk.mk2 Try.mixed dkHo_ok (FnsR.cons (R_pwt) (FnsR.cons (R_oth) (FnsR.nil))) EqsOk.nil) rfl Try.func40 (by kernel_rfl) (fun W0 G=>LpsOk.cons (by kernel_rfl) (pne_lp Y Z a b (othE Z a b cl md) h0 (othS_len2 Z a b cl md) _ rfl) (LpsOk.nil _)) (cs:=[]) (by kernel_rfl) (pne_w0 Y Z a b cl md h0) w e vs hM ha
 ·cases h
theorem R_pne:RowOk Try.prog Id' hardD 40 (ctrF Id' C_pne hardD):=ctrF_ok Try.call40 C_pne_ok
theorem pnew_w0  :∃ qs,wayO Id' ([]:Mem Td).length [⟨.bx [.obj 1],true⟩,⟨.us (.ext (.flat (.rw 72 [false,false,false] []))),true⟩] (.c (.one (.ptr 0 0))) ((runFn (⟨Try.prog,[],[],dkHo,Id'.one,60⟩:Sy Td) [] Try.f33 [] []).al [])=some qs∧∀ q∈qs,q:=
 ⟨[∀ (w:World),Id'.holds (Th.ext (Dk.flat (FL.rw 72 [false,false,false] []))) w nilV∧∀ (j:Nat),¬Id'.foot (Th.ext (Dk.flat (FL.rw 72 [false,false,false] []))) w nilV j],by kernel_rfl,(by refine mcons ?_ mnil<;>first|rfl|trivial|(exact nil_rw3 rfl))⟩
def C_pnew:Ctr Td:=fun us sub=>match us,sub with
 |[],[]=>some ([],.c (.one (.ptr 0 0)),[⟨.bx [.obj 1],true⟩,⟨.us (.ext (.flat (.rw 72 [false,false,false] []))),true⟩])
 |_,_=>none
theorem C_pnew_ok:CtrOk Try.prog Id' 33 C_pnew:=by
 intro us sub ps x sm h hp w e vs hM ha
 unfold C_pnew at h
 split at h
 ·skip
  simp only [Option.some.injEq,Prod.mk.injEq] at h
  obtain ⟨rfl,rfl,rfl⟩:=h
  exact ctr_way (I:=Id') (fun (W0:World) (G:Nat→Prop)=>SyOk.mk2 Try.mixed dkHo_ok (FnsR.nil) EqsOk.nil) rfl Try.func33 (by kernel_rfl) (fun W0 G=>LpsOk.nil _) (cs:=[]) (by kernel_rfl) (pnew_w0  ) w e vs hM ha
 ·cases h
theorem R_pnew:RowOk Try.prog Id' hardD 33 (ctrF Id' C_pnew hardD):=ctrF_ok Try.call33 C_pnew_ok
theorem lv22_len:(pnE [] (grT [] 2 1 1 1) 2 1 2 2).1.length≤100000:=by decide +kernel
theorem lv22_w0  :∃ qs,wayO Id' ([]:Mem Td).length [] (svV (.bool true)) ((runFn (⟨Try.prog,[(33,ctrF Id' C_pnew hardD),(34,ctrF Id' C_tnew hardD),(36,ctrF Id' C_tgr hardD),(40,ctrF Id' C_pne hardD),(42,ctrV C_phs hardD),(38,ctrF Id' C_pal hardD)],[E_of Try.prog 57,E_of Try.prog 72],dkHo,Id'.one,60⟩:Sy Td) [] Try.f44 [] []).al [true,true])=some qs∧∀ q∈qs,q:=
 ⟨[true=true,true=true,(pnE [] (grT [] (2:Int) (1:Int) (1:Int) (1:Int)) (2:Int) (1:Int) (2:Int) (2:Int)).fst.length≤(100000:Nat),true=true,true=true→(pnE [] (grT [] (2:Int) (1:Int) (1:Int) (1:Int)) (2:Int) (1:Int) (2:Int) (2:Int)).fst.length≤(100000:Nat),([]:List Rw).length≤(9000:Nat),true=true,Value.bool true=Value.bool true],by kernel_rfl,(by refine mcons ?_ (mcons ?_ (mcons ?_ (mcons ?_ (mcons ?_ (mcons ?_ (mcons ?_ (mcons ?_ mnil)))))))<;>first|rfl|trivial|(exact lv22_len)|(exact fun _=>lv22_len)|decide|(decide +kernel))⟩
def C_lv22:Ctr Td:=fun us sub=>match us,sub with
 |[],[]=>some ([],svV (.bool true),[])
 |_,_=>none
theorem C_lv22_ok:CtrOk Try.prog Id' 44 C_lv22:=by
 intro us sub ps x sm h hp w e vs hM ha
 unfold C_lv22 at h
 split at h
 ·skip
  simp only [Option.some.injEq,Prod.mk.injEq] at h
  obtain ⟨rfl,rfl,rfl⟩:=h
  exact ctr_way (I:=Id') (fun (W0:World) (G:Nat→Prop)=>SyOk.mk2 Try.mixed dkHo_ok (FnsR.cons (R_pnew) (FnsR.cons (R_tnew) (FnsR.cons (R_tgr) (FnsR.cons (R_pne) (FnsR.cons (R_phs) (FnsR.cons (R_pal) (FnsR.nil))))))) (E_of_ok (by kernel_rfl) (E_of_ok (by kernel_rfl) (EqsOk.nil)))) rfl Try.func44 (by kernel_rfl) (fun W0 G=>LpsOk.nil _) (cs:=[true,true]) (by kernel_rfl) (lv22_w0  ) w e vs hM ha
 ·cases h
theorem R_lv22:RowOk Try.prog Id' hardD 44 (ctrF Id' C_lv22 hardD):=ctrF_ok Try.call44 C_lv22_ok
def putW (s:WS) (nm:ByteArray) (a b c:Int):WS:=putN ((((s.put (IntKind.u64.wrap (nm.size:Int)) 5).put (IntKind.u64.wrap a) 6).put (IntKind.u64.wrap b) 31).put (IntKind.u64.wrap c) 2) nm 16
def putR (s:WS) (r:Rw):WS:=putW s (r.ss.getD 0 ⟨#[]⟩) (r.is.getD 0 0) (r.is.getD 1 0) (r.is.getD 2 0)
def putsW (s:WS) (Y:List Rw):Nat→WS
 |0=>s
 |k+1=>putR (putsW s Y k) (Y.getD k Rw.zero)
def blkP (Y:List Rw):List UInt8:=(putsW .new Y Y.length).out++List.replicate (IntKind.i64.wrap ((128:Int) - ((putsW .new Y Y.length).out.length:Int))).toNat 0
theorem wput_len (s:WS) (x n:Int):(s.put x n).bl.length≤s.bl.length+n.toNat:=by
 simp only [WS.put,putL]
 split
 ·rw [List.length_append,bitsOf_length];exact Nat.le_refl _
 ·omega
theorem putN_len (s:WS) (nm:ByteArray):∀ k,(putN s nm k).bl.length≤s.bl.length+8 * k
 |0=>Nat.le_refl _
 |k+1=>by
  have:=putN_len s nm k
  have h:=wput_len (putN s nm k) (chI nm (k:Int)) 8
  show ((putN s nm k).put (chI nm (k:Int)) 8).bl.length≤_
  have:(8:Int).toNat=8:=rfl
  omega
theorem putW_len (s:WS) (nm:ByteArray) (a b c:Int):(putW s nm a b c).bl.length≤s.bl.length+172:=by
 unfold putW
 have h0:=putN_len ((((s.put (IntKind.u64.wrap (nm.size:Int)) 5).put (IntKind.u64.wrap a) 6).put (IntKind.u64.wrap b) 31).put (IntKind.u64.wrap c) 2) nm 16
 have h1:=wput_len s (IntKind.u64.wrap (nm.size:Int)) 5
 have h2:=wput_len (s.put (IntKind.u64.wrap (nm.size:Int)) 5) (IntKind.u64.wrap a) 6
 have h3:=wput_len ((s.put (IntKind.u64.wrap (nm.size:Int)) 5).put (IntKind.u64.wrap a) 6) (IntKind.u64.wrap b) 31
 have h4:=wput_len (((s.put (IntKind.u64.wrap (nm.size:Int)) 5).put (IntKind.u64.wrap a) 6).put (IntKind.u64.wrap b) 31) (IntKind.u64.wrap c) 2
 have e5:(5:Int).toNat=5:=rfl
 have e6:(6:Int).toNat=6:=rfl
 have e31:(31:Int).toNat=31:=rfl
 have e2:(2:Int).toNat=2:=rfl
 omega
theorem putsW_len (s:WS) (Y:List Rw):∀ k,(putsW s Y k).bl.length≤s.bl.length+172 * k
 |0=>Nat.le_refl _
 |k+1=>by
  have:=putsW_len s Y k
  have h:=putW_len (putsW s Y k) ((Y.getD k Rw.zero).ss.getD 0 ⟨#[]⟩) ((Y.getD k Rw.zero).is.getD 0 0) ((Y.getD k Rw.zero).is.getD 1 0) ((Y.getD k Rw.zero).is.getD 2 0)
  show (putR (putsW s Y k) (Y.getD k Rw.zero)).bl.length≤_
  unfold putR
  omega
theorem out_len (Y:List Rw) (h:Y.length≤5):(putsW .new Y Y.length).out.length≤128:=by
 have:=putsW_len .new Y Y.length
 have h0:(WS.new).bl.length=0:=rfl
 unfold WS.out
 split
 ·rw [packed_length];omega
 ·exact Nat.zero_le _
theorem w128 {Y:List Rw} (h:Y.length≤5):IntKind.i64.wrap ((128:Int) - ((putsW WS.new Y Y.length).out.length:Int))=(128:Int) - ((putsW WS.new Y Y.length).out.length:Int):=by
 have:=out_len Y h
 exact IntWalk.i64_in _ (by omega)
def blksP (R:List Rw):Nat→List (List UInt8)
 |0=>[]
 |k+1=>blksP R k++[blkP ((R.drop (5 * k)).take 5)]
def nbR (R:List Rw):Nat:=(R.length+4) / 5
theorem blksP_len (R:List Rw):∀ k,(blksP R k).length=k
 |0=>rfl
 |k+1=>by simp [blksP,blksP_len R k]
def okP (R:List Rw):Bool:=allI 1 R.length (riseI R)&&allI 0 R.length (isI R)
def dbE (R:List Rw):Int:=bif okP R then (bif decide ((R.length:Int)>24) then 8 else 0) else 2
def dbB (R:List Rw):List (List UInt8):=bif okP R&&!decide ((R.length:Int)>24) then blksP R (nbR R) else []
def nmB (l:List Bool) (nm:ByteArray):Nat→List Bool
 |0=>l
 |k+1=>nmB l nm k++bitsOf (IntKind.u64.wrap (chI nm (k:Int))).toNat 8
theorem nmB_len (l:List Bool) (nm:ByteArray):∀ k,(nmB l nm k).length=l.length+8 * k
 |0=>rfl
 |k+1=>by simp only [nmB,List.length_append,bitsOf_length,nmB_len l nm k];omega
def entB (l:List Bool) (r:Rw):List Bool:=nmB (l++bitsOf (IntKind.u64.wrap ((r.ss.getD 0 ⟨#[]⟩).size:Int)).toNat 5++bitsOf (IntKind.u64.wrap (r.is.getD 0 0)).toNat 6++bitsOf (IntKind.u64.wrap (r.is.getD 1 0)).toNat 31++bitsOf (IntKind.u64.wrap (r.is.getD 2 0)).toNat 2) (r.ss.getD 0 ⟨#[]⟩) 16
def entsB (R:List Rw):Nat→List Bool
 |0=>[]
 |k+1=>entB (entsB R k) (R.getD k Rw.zero)
theorem entB_len (l:List Bool) (r:Rw):(entB l r).length=l.length+172:=by
 unfold entB
 rw [nmB_len]
 simp only [List.length_append,bitsOf_length]
theorem entsB_len (R:List Rw):∀ k,(entsB R k).length=172 * k
 |0=>rfl
 |k+1=>by show (entB (entsB R k) _).length=_;rw [entB_len,entsB_len R k];omega
def padL (x:List UInt8) (k:Nat):List UInt8:=x++List.replicate k 0
def blkD (R:List Rw):List UInt8:=padL (packed (entsB R R.length)) (128 - (packed (entsB R R.length)).length)
def blksD (R:List Rw):Nat→List (List UInt8)
 |0=>[]
 |k+1=>blksD R k++[blkD ((R.drop (5 * k)).take 5)]
def rbB (R:List Rw):List (List UInt8):=bif allI 0 R.length (riseD R)&&!decide ((R.length:Int)>24) then blksD R (nbR R) else []
theorem less_tri:∀ a b:List UInt8,(!Op.bytesLess a b)=(Op.bytesLess b a||b==a)
 |[],[]=>rfl
 |[],y::ys=>rfl
 |x::xs,[]=>rfl
 |x::xs,y::ys=>by
  have ih:=less_tri xs ys
  simp only [Op.bytesLess]
  by_cases h1:x<y
  ·simp [h1,UInt8.lt_asymm h1,UInt8.ne_of_lt h1,(UInt8.ne_of_lt h1).symm]
  ·by_cases h2:y<x
   ·simp [h1,h2,UInt8.ne_of_lt h2,(UInt8.ne_of_lt h2).symm]
   ·have:x=y:=UInt8.le_antisymm (UInt8.not_lt.1 h2) (UInt8.not_lt.1 h1)
    subst this
    simp [h1,ih]
theorem allI_iff {o n:Nat} {p:Int→Bool}:allI o n p=true↔∀ i:Int,(o:Int)≤i→i.toNat<n→p i=true:=by
 rcases allI_cases o n p with ⟨h,g⟩|⟨h,i,g1,g2,g3⟩
 ·exact ⟨fun _=>g,fun _=>h⟩
 ·refine ⟨fun e=>(by rw [h] at e;cases e),fun e=>?_⟩
  rw [e i g1 g2] at g3;cases g3
theorem riseD_is (R:List Rw) (i:Int):riseD R i=(isI R i&&(!decide (i>0)||riseI R i)):=by
 unfold riseD riseI
 rw [← less_tri]
 cases isI R i<;>cases decide (i>0)<;>simp
theorem okP_is (R:List Rw):okP R=allI 0 R.length (riseD R):=by
 rw [Bool.eq_iff_iff]
 unfold okP
 rw [Bool.and_eq_true,allI_iff,allI_iff,allI_iff]
 constructor
 ·rintro ⟨h1,h2⟩ i h0 hn
  rw [riseD_is,h2 i h0 hn,Bool.true_and]
  by_cases h:i>0
  ·rw [h1 i (by omega) hn];simp
  ·rw [decide_eq_false h];rfl
 ·intro h
  refine ⟨fun i h0 hn=>?_,fun i h0 hn=>?_⟩
  ·have:=h i (by omega) hn
   rw [riseD_is,Bool.and_eq_true,decide_eq_true (show i>0 by omega)] at this
   simpa using this.2
  ·have:=h i h0 hn
   rw [riseD_is,Bool.and_eq_true] at this
   exact this.1
theorem put_fit {s:WS} {x n:Int} (he:s.err=0) (hf:fitsN x.toNat n):(s.put x n).bl=s.bl++bitsOf x.toNat n.toNat∧(s.put x n).err=0:=by
 simp only [WS.put,putL,putE]
 rw [if_pos ⟨he,hf⟩,if_neg (fun h=>h.2 hf)]
 exact ⟨rfl,he⟩
theorem chI_in (nm:ByteArray) (i:Int):0≤chI nm i∧chI nm i<256:=by
 unfold chI
 cases decide (i<(nm.size:Int)) with
 |true=>have:=(nm.data.toList.getD i.toNat 0).toNat_lt;simp only [cond_true];omega
 |false=>simp
theorem putN_fit {s:WS} (nm:ByteArray) (he:s.err=0):∀ k,(putN s nm k).bl=nmB s.bl nm k∧(putN s nm k).err=0
 |0=>⟨rfl,he⟩
 |k+1=>by
  obtain ⟨h1,h2⟩:=putN_fit nm he k
  have hc:=chI_in nm (k:Int)
  have h:=put_fit (x:=chI nm (k:Int)) (n:=8) h2 ⟨by decide,by decide,by show _<256;omega⟩
  refine ⟨?_,h.2⟩
  show ((putN s nm k).put (chI nm (k:Int)) 8).bl=nmB s.bl nm k++bitsOf (IntKind.u64.wrap (chI nm (k:Int))).toNat 8
  rw [h.1,h1,u64w_id (by omega)];rfl
theorem isE_in {nm:ByteArray} {a b c:Int} (h:isE nm a b c=true):nm.size<17∧(0<a∧a<41)∧(0≤b∧b<2147483648)∧(0<c∧c<3):=by
 unfold isE nameB at h
 simp only [Bool.and_eq_true,decide_eq_true_eq] at h
 omega
theorem putR_fit {s:WS} {r:Rw} (he:s.err=0) (h:isR r=true):(putR s r).bl=entB s.bl r∧(putR s r).err=0:=by
 obtain ⟨hn,ha,hb,hc⟩:=isE_in h
 have w1:=u64w_id (n:=((r.ss.getD 0 ⟨#[]⟩).size:Int)) (by omega)
 have w2:=u64w_id (n:=r.is.getD 0 0) (by omega)
 have w3:=u64w_id (n:=r.is.getD 1 0) (by omega)
 have w4:=u64w_id (n:=r.is.getD 2 0) (by omega)
 have p1:=put_fit (s:=s) (x:=IntKind.u64.wrap ((r.ss.getD 0 ⟨#[]⟩).size:Int)) (n:=5) he ⟨by decide,by decide,by rw [w1];show _<32;omega⟩
 have p2:=put_fit (x:=IntKind.u64.wrap (r.is.getD 0 0)) (n:=6) p1.2 ⟨by decide,by decide,by rw [w2];show _<64;omega⟩
 have p3:=put_fit (x:=IntKind.u64.wrap (r.is.getD 1 0)) (n:=31) p2.2 ⟨by decide,by decide,by rw [w3];show _<2147483648;omega⟩
 have p4:=put_fit (x:=IntKind.u64.wrap (r.is.getD 2 0)) (n:=2) p3.2 ⟨by decide,by decide,by rw [w4];show _<4;omega⟩
 have p5:=putN_fit (r.ss.getD 0 ⟨#[]⟩) p4.2 16
 refine ⟨?_,p5.2⟩
 show (putN _ _ 16).bl=_
 rw [p5.1,p4.1,p3.1,p2.1,p1.1];rfl
theorem putsW_fit {Y:List Rw} (h:∀ r∈Y,isR r=true):∀ k,k≤Y.length→(putsW .new Y k).bl=entsB Y k∧(putsW .new Y k).err=0
 |0,_=>⟨rfl,rfl⟩
 |k+1,hk=>by
  obtain ⟨h1,h2⟩:=putsW_fit h k (by omega)
  have hr:isR (Y.getD k Rw.zero)=true:=by
   rw [List.getD_eq_getElem?_getD,List.getElem?_eq_getElem (show k<Y.length by omega)]
   exact h _ (List.getElem_mem _)
  have p:=putR_fit (r:=Y.getD k Rw.zero) h2 hr
  refine ⟨?_,p.2⟩
  show (putR (putsW .new Y k) (Y.getD k Rw.zero)).bl=entB (entsB Y k) (Y.getD k Rw.zero)
  rw [p.1,h1]
theorem blk_is {Y:List Rw} (h:∀ r∈Y,isR r=true) (hl:Y.length≤5):blkP Y=blkD Y:=by
 obtain ⟨h1,h2⟩:=putsW_fit h Y.length (Nat.le_refl _)
 have ho:(putsW .new Y Y.length).out=packed (entsB Y Y.length):=by unfold WS.out;rw [if_pos h2,h1]
 have hn:=out_len Y hl
 unfold blkP blkD padL
 rw [w128 hl,ho]
 rw [ho] at hn
 congr 2
 omega
theorem blks_is {R:List Rw} (h:∀ r∈R,isR r=true):∀ k,blksP R k=blksD R k
 |0=>rfl
 |k+1=>by
  show blksP R k++_=blksD R k++_
  rw [blks_is h k,blk_is (fun r hr=>h r (List.mem_of_mem_drop (List.mem_of_mem_take hr))) (List.length_take_le ..)]
theorem dbB_is (R:List Rw):dbB R=rbB R:=by
 unfold dbB rbB
 rw [← okP_is]
 cases h:okP R with
 |false=>rfl
 |true=>
  rw [blks_is fun r hr=>?_]
  have h2:=(Bool.and_eq_true_iff.1 h).2
  obtain ⟨j,hj,rfl⟩:=List.getElem_of_mem hr
  have:=allI_iff.1 h2 (j:Int) (by omega) (by simpa using hj)
  unfold isI at this
  rw [Int.toNat_natCast,List.getD_eq_getElem?_getD,List.getElem?_eq_getElem hj] at this
  exact this
def gU (s:RS):UInt8:=UInt8.ofNat (IntKind.u8.wrap (s.num 8:Int)).toNat
def gL:Nat→RS→List UInt8
 |0,_=>[]
 |n+1,s=>gU s::gL n (s.get 8)
def gS:Nat→RS→RS
 |0,s=>s
 |n+1,s=>gS n (s.get 8)
def gN (s:RS):Int:=if (16:Int)<IntKind.i64.wrap (s.num 5:Int) then 16 else IntKind.i64.wrap (s.num 5:Int)
def g4 (s:RS):RS:=(((s.get 5).get 6).get 31).get 2
def gNm (s:RS):ByteArray:=⟨((gL 16 (g4 s)).take (gN s).toNat).toArray⟩
def gA (s:RS):Int:=IntKind.i64.wrap ((s.get 5).num 6:Int)
def gB (s:RS):Int:=IntKind.i64.wrap (((s.get 5).get 6).num 31:Int)
def gC (s:RS):Int:=IntKind.i64.wrap ((((s.get 5).get 6).get 31).num 2:Int)
def gE (s:RS):RS:=gS 16 (g4 s)
theorem RS.num_lt (s:RS) (n:Nat):s.num (n:Int)<2 ^ n:=by
 unfold RS.num getV
 split
 ·have h:=val_lt (bitsFrom s.l s.at' (n:Int).toNat)
  refine Nat.lt_of_lt_of_le h (Nat.pow_le_pow_right (by decide) ?_)
  unfold bitsFrom
  rw [Int.toNat_natCast]
  exact List.length_take_le ..
 ·exact Nat.pow_pos (by decide)
def entG (s:RS):Rw:=⟨[gA s,gB s,gC s],[gNm s]⟩
def stE (X:List Rw) (s:RS):Nat→List Rw×RS
 |0=>(X,s)
 |k+1=>(bif (gNm (stE X s k).2).toList==(⟨#[]⟩:ByteArray).toList then (stE X s k).1 else (stE X s k).1++[entG (stE X s k).2],gE (stE X s k).2)
def stO (L:List (List UInt8)):Nat→List Rw
 |0=>[]
 |k+1=>(stE (stO L k) (RS.new (L.getD k [])) 5).1
section
variable {W0:World} {G:Nat→Prop} {sz:Nat} {w:World} {e:Env} {mem:Mem Td}
def regO (id:Nat):Code→List Oper
 |.region i ops _=>match eqb i id with|true=>ops.toList|false=>[]
 |.seq x y=>regO id x++regO id y
 |.cond _ x y=>regO id x++regO id y
 |.block _ c=>regO id c
 |.loop c=>regO id c
 |_=>[]
def drwR (id:Nat):Code→Bool
 |.region i _ d=>match eqb i id with|true=>d|false=>false
 |.seq x y=>drwR id x||drwR id y
 |.cond _ x y=>drwR id x||drwR id y
 |.block _ c=>drwR id c
 |.loop c=>drwR id c
 |_=>false
def mapG (f:Mem Td→Mem Td) (S:Sy Td) (sz:Nat) (l:List Oper) (d:Bool):SSt Td→Option (Tr Td):=fun s=>forceN (s.ver+1) fun v=>some (regionB S sz l d ⟨s.base,f s.mem,v⟩)
theorem mapG_sound {Sq:Sy Td} (hS:SyOk Sq Id' W0 G) {S:Sy Td} (hP:S.P=Sq.P) {id:Nat} {l:List Oper} {d:Bool} {f:Mem Td→Mem Td} (hf:∀ w e mem,MemOk W0 G Id' w e mem→MemOk W0 G Id' w e (f mem)):FragSound S Id' W0 G sz (.region id l.toArray d) (mapG f Sq sz l d):=by
 intro s t hg
 unfold mapG at hg
 rw [forceN_eq] at hg
 simp only [Option.some.injEq] at hg
 subst hg
 refine ⟨Tr.all_mono (fun s' h=>?_) (regionB_after (S:=Sq) (sz:=sz) (l:=l) (d:=d) (s:=⟨s.base,f s.mem,s.ver+1⟩)),fun K hK Q a w e hfr hM hend=>?_⟩
 ·obtain ⟨⟨pre,h1,h2⟩,h3,_⟩:=h
  refine ⟨⟨pre,h1,fun p hp=>by simpa [writesC] using h2 p hp⟩,Nat.le_of_succ_le h3,fun hv=>absurd (hv▸h3) (Nat.not_succ_le_self _)⟩
 ·rw [hP]
  exact regionB_sound hS (s:=⟨s.base,f s.mem,s.ver+1⟩) hK hfr (hf w e s.mem hM) fun s' e' a' w' hg hk hf' hM'=>hend .normal s' e' a' w' hg hk hf' hM'
def modAt (g:En Td→En Td):Nat→Mem Td→Mem Td
 |_,[]=>[]
 |0,en::r=>g en::r
 |i+1,en::r=>en::modAt g i r
theorem modAt_len (g:En Td→En Td):∀ (i:Nat) (m:Mem Td),(modAt g i m).length=m.length
 |_,[]=>by simp [modAt]
 |0,en::r=>rfl
 |i+1,en::r=>by simp [modAt,modAt_len g i r]
theorem modAt_get (g:En Td→En Td):∀ (i:Nat) (m:Mem Td) (j:Nat) (n:En Td),(modAt g i m)[j]? =some n→∃ n0,m[j]? =some n0∧(n=n0∨n=g n0)
 |_,[],j,n,h=>by simp [modAt] at h
 |0,en::r,0,n,h=>by simp [modAt] at h;exact ⟨en,rfl,.inr h.symm⟩
 |0,en::r,j+1,n,h=>by simp [modAt] at h;exact ⟨n,by simpa using h,.inl rfl⟩
 |i+1,en::r,0,n,h=>by simp [modAt] at h;exact ⟨en,rfl,.inl h.symm⟩
 |i+1,en::r,j+1,n,h=>by
  simp only [modAt,List.getElem?_cons_succ] at h ⊢
  exact modAt_get g i r j n h
end
section
variable {W0:World} {G:Nat→Prop} {w:World} {e:Env} {mem:Mem Td}
def fzE (en:En Td):En Td:=match en.ob with
 |.blk cs=>⟨.blk cs,false⟩
 |_=>en
theorem fz_ok (i:Nat) (w:World) (e:Env) (mem:Mem Td) (hM:MemOk W0 G Id' w e mem):MemOk W0 G Id' w e (modAt fzE i mem):=by
 have key:∀ (j:Nat) (n':En Td),(modAt fzE i mem)[j]? =some n'→∃ n,mem[j]? =some n∧(∀ u,Holds Id' e w u n.mu n.ob→Holds Id' e w u n'.mu n'.ob)∧(∀ u k,Foot Id' w u n'.ob k→Foot Id' w u n.ob k)∧(n'.mu=true→n'=n):=fun j n' hn=>by
  obtain ⟨n,h1,h2⟩:=modAt_get _ _ _ _ _ hn
  refine ⟨n,h1,?_⟩
  rcases h2 with rfl|rfl
  ·exact ⟨fun u h=>h,fun u k h=>h,fun _=>rfl⟩
  ·unfold fzE
   split
   ·rename_i cs hb
    rw [hb]
    exact ⟨fun u ⟨b,o,h1,h2⟩=>⟨b,o,h1,fun j p hp=>by obtain ⟨x,g1,g2,_⟩:=h2 j p hp;exact ⟨x,g1,g2,fun h=>by cases h⟩⟩,fun u k h=>h,fun h=>by cases h⟩
   ·exact ⟨fun u h=>h,fun u k h=>h,fun _=>rfl⟩
 refine ⟨by rw [modAt_len];exact hM.len,fun j u n hu hn=>?_,fun j u n hu hn k hk=>?_,fun j u n hu hn hmu k hk=>?_,fun i' j u v n m hu hn hmu hv hm hij k hk1 hk2=>?_,hM.mod,fun j u n hu hn k hk=>?_⟩
 ·obtain ⟨n0,h1,h2,_⟩:=key j n hn
  exact h2 u (hM.holds j u n0 hu h1)
 ·obtain ⟨n0,h1,_,h3,_⟩:=key j n hn
  exact hM.lt j u n0 hu h1 k (h3 u k hk)
 ·obtain ⟨n0,h1,_,_,h4⟩:=key j n hn
  obtain rfl:=h4 hmu
  exact hM.own j u n hu h1 hmu k hk
 ·obtain ⟨n0,h1,_,_,h4⟩:=key i' n hn
  obtain ⟨m0,g1,_,g3,_⟩:=key j m hm
  obtain rfl:=h4 hmu
  exact hM.sep i' j u v n m0 hu h1 hmu hv g1 hij k hk1 (g3 v k hk2)
 ·obtain ⟨n0,h1,_,h3,_⟩:=key j n hn
  exact hM.rd j u n0 hu h1 k (h3 u k hk)
end
theorem kD_w0 (x y z a b c:Int) :∃ qs,wayV ((runFn (⟨Try.prog,[],[E_of Try.prog 57,E_of Try.prog 72],dkHo,Id'.one,60⟩:Sy Td) [] Try.f108 [.agg [.v (.int .i64 x),.v (.int .i64 y),.v (.int .i64 z)],.one (.ptr 0 0),.one (.ptr 1 0)] (roM [⟨.blk [.v (.int .i64 a),.v (.int .i64 b)],false⟩,⟨.blk [.v (.int .i64 c)],false⟩])).al []) (fun u=>u=.bool (x==a&&(y==b&&true)&&(z==c&&true)))=some qs∧∀ q∈qs,q:=
 ⟨[Value.bool (x==a&&(y==b&&true)&&(z==c&&true))=Value.bool (x==a&&(y==b&&true)&&(z==c&&true))],by kernel_rfl,(by refine mcons ?_ mnil<;>first|rfl|trivial)⟩
def C_kD:CtrV Td:=fun us sub=>match us,sub with
 |[.agg [.v (.int .i64 x),.v (.int .i64 y),.v (.int .i64 z)],.one (.ptr 0 0),.one (.ptr 1 0)],[⟨.blk [.v (.int .i64 a),.v (.int .i64 b)],false⟩,⟨.blk [.v (.int .i64 c)],false⟩]=>some ([],.bool (x==a&&(y==b&&true)&&(z==c&&true)))
 |_,_=>none
theorem C_kD_ok:CtrVOk Try.prog Id' 108 C_kD:=by
 intro us sub ps x h hp w e vs hM ha
 unfold C_kD at h
 split at h
 ·rename_i x y z a b c
  simp only [Option.some.injEq,Prod.mk.injEq] at h
  obtain ⟨rfl,rfl⟩:=h
  exact ctrv_way (I:=Id') (fun (W0:World) (G:Nat→Prop)=>SyOk.mk2 Try.mixed dkHo_ok (FnsR.nil) (E_of_ok (by kernel_rfl) (E_of_ok (by kernel_rfl) (EqsOk.nil)))) rfl Try.func108 (by kernel_rfl) (fun W0 G=>LpsOk.nil _) (cs:=[]) (by kernel_rfl) (kD_w0 x y z a b c ) w e vs hM ha
 ·cases h
theorem R_kD:RowOk Try.prog Id' hardD 108 (ctrV C_kD hardD):=ctrV_ok Try.call108 C_kD_ok
theorem kG_w0 (x y z c:Int) :∃ qs,wayV ((runFn (⟨Try.prog,[],[E_of Try.prog 57,E_of Try.prog 72],dkHo,Id'.one,60⟩:Sy Td) [] Try.f109 [.agg [.v (.int .i64 x),.v (.int .i64 y),.v (.int .i64 z)],.one (.ptr 0 0)] (roM [⟨.blk [.v (.int .i64 c)],false⟩])).al []) (fun u=>u=.bool (z==c))=some qs∧∀ q∈qs,q:=
 ⟨[Value.bool (z==c)=Value.bool (z==c)],by kernel_rfl,(by refine mcons ?_ mnil<;>first|rfl|trivial)⟩
def C_kG:CtrV Td:=fun us sub=>match us,sub with
 |[.agg [.v (.int .i64 x),.v (.int .i64 y),.v (.int .i64 z)],.one (.ptr 0 0)],[⟨.blk [.v (.int .i64 c)],false⟩]=>some ([],.bool (z==c))
 |_,_=>none
theorem C_kG_ok:CtrVOk Try.prog Id' 109 C_kG:=by
 intro us sub ps x h hp w e vs hM ha
 unfold C_kG at h
 split at h
 ·rename_i x y z c
  simp only [Option.some.injEq,Prod.mk.injEq] at h
  obtain ⟨rfl,rfl⟩:=h
  exact ctrv_way (I:=Id') (fun (W0:World) (G:Nat→Prop)=>SyOk.mk2 Try.mixed dkHo_ok (FnsR.nil) (E_of_ok (by kernel_rfl) (E_of_ok (by kernel_rfl) (EqsOk.nil)))) rfl Try.func109 (by kernel_rfl) (fun W0 G=>LpsOk.nil _) (cs:=[]) (by kernel_rfl) (kG_w0 x y z c ) w e vs hM ha
 ·cases h
theorem R_kG:RowOk Try.prog Id' hardD 109 (ctrV C_kG hardD):=ctrV_ok Try.call109 C_kG_ok
theorem kC_w0 (x y z a b:Int) :∃ qs,wayV ((runFn (⟨Try.prog,[],[E_of Try.prog 57,E_of Try.prog 72],dkHo,Id'.one,60⟩:Sy Td) [] Try.f110 [.agg [.v (.int .i64 x),.v (.int .i64 y),.v (.int .i64 z)],.one (.ptr 0 0)] (roM [⟨.blk [.v (.int .i64 a),.v (.int .i64 b)],false⟩])).al []) (fun u=>u=.bool (x==a&&(y==b&&true)))=some qs∧∀ q∈qs,q:=
 ⟨[Value.bool (x==a&&(y==b&&true))=Value.bool (x==a&&(y==b&&true))],by kernel_rfl,(by refine mcons ?_ mnil<;>first|rfl|trivial)⟩
def C_kC:CtrV Td:=fun us sub=>match us,sub with
 |[.agg [.v (.int .i64 x),.v (.int .i64 y),.v (.int .i64 z)],.one (.ptr 0 0)],[⟨.blk [.v (.int .i64 a),.v (.int .i64 b)],false⟩]=>some ([],.bool (x==a&&(y==b&&true)))
 |_,_=>none
theorem C_kC_ok:CtrVOk Try.prog Id' 110 C_kC:=by
 intro us sub ps x h hp w e vs hM ha
 unfold C_kC at h
 split at h
 ·rename_i x y z a b
  simp only [Option.some.injEq,Prod.mk.injEq] at h
  obtain ⟨rfl,rfl⟩:=h
  exact ctrv_way (I:=Id') (fun (W0:World) (G:Nat→Prop)=>SyOk.mk2 Try.mixed dkHo_ok (FnsR.nil) (E_of_ok (by kernel_rfl) (E_of_ok (by kernel_rfl) (EqsOk.nil)))) rfl Try.func110 (by kernel_rfl) (fun W0 G=>LpsOk.nil _) (cs:=[]) (by kernel_rfl) (kC_w0 x y z a b ) w e vs hM ha
 ·cases h
theorem R_kC:RowOk Try.prog Id' hardD 110 (ctrV C_kC hardD):=ctrV_ok Try.call110 C_kC_ok
section
variable {β:Type} {S:Sy β} {I:ObI β} {W0:World} {G:Nat→Prop} {L:Lps β} {P:Program} {w w':World} {E e e':Env} {MEM mem ms:Mem β} {hard:β→Bool}
def ctrVn (d:Nat) (spec:CtrV β) (hard:β→Bool):Fn2 β:=fun us mem=>forceL (cloH mem (d+lenL (hsCs us [])) 0 (hsCs us [])) fun is=>
 match nodupB is&&liveIs mem is,mapO (dnC is) us,dnMG hard is mem is with
 |true,some us0,some (sub,qs)=>(match spec (cvCs us0) (roM (canM sub)) with
  |some (ps,v)=>some (qs++ps,svOf v,none)
  |none=>none)
 |_,_,_=>none
theorem ctrVn_ok (d:Nat) {f:FuncId} {spec:CtrV β} (he:∀ us w,(callFunc f us).run P w=.ok (.enter f us) w) (hspec:CtrVOk P I f spec):RowOk P I hard f (ctrVn d spec hard):=by
 refine ⟨he,fun W0 G args mem ps r mo hr hp w E us hM ha=>?_,fun args m m' ps r hr hl=>?_,fun args mem ps r m' hr=>?_⟩
 ·unfold ctrVn at hr
  rw [forceL_eq] at hr
  split at hr
  ·rename_i us0 sub qs hB h1 h2
   split at hr
   ·rename_i pps v hs
    simp only [Option.some.injEq,Prod.mk.injEq] at hr
    obtain ⟨rfl,rfl,rfl⟩:=hr
    rw [Bool.and_eq_true] at hB
    have hn:=nodupB_iff hB.1
    let is:=cloH mem (d+lenL (hsCs args [])) 0 (hsCs args [])
    let e:Env:=is.map fun i=>E.getD i undef
    have hee:∀ j i:Nat,is[j]? =some i→e[j]? =E[i]? :=fun j i hj=>by
     obtain ⟨en,h3,_⟩:=liveIs_mem hB.2 i (List.mem_of_getElem? hj)
     have hlt:i<E.length:=by rw [hM.len];exact (List.getElem?_eq_some_iff.1 h3).1
     simp only [e,List.getElem?_map,hj,Option.map_some,List.getD_eq_getElem?_getD]
     rw [List.getElem?_eq_getElem hlt];rfl
    have hsub:=subG_ok (e:=e) hM hn h2 (fun p h=>hp p (List.mem_append_left _ h)) (by simp [e,is]) hee
    exact (hspec _ _ pps v hs (fun p h=>hp p (List.mem_append_right _ h)) w e us (MemOk.ro (by rw [footOf_can];exact hsub.can)) (cvCs_is (dnCs_is hee h1 ha))).mono fun y w' ⟨h4,h5⟩=>⟨v,h4,svOf_is E v,h5⟩
   ·cases hr
  ·cases hr
 ·unfold ctrVn at hr ⊢
  rw [forceL_eq] at hr ⊢
  split at hr
  ·rename_i us0 sub qs hB h1 h2
   have hB':=hB
   rw [Bool.and_eq_true] at hB'
   obtain ⟨g1,_⟩:=cloH_mono hl _ _ _ hB'.2
   obtain ⟨g2,g3⟩:=liveIs_mono hl hB'.2
   rw [g1,hB'.1,g2,h1,dnMG_mono g3,h2]
   exact hr
  ·cases hr
 ·unfold ctrVn at hr
  rw [forceL_eq] at hr
  split at hr
  ·split at hr<;>simp at hr
  ·cases hr
end
theorem kS_w0 (T:List ((Int×Int)×Int)) (x y z:Int) :∃ qs,wayV ((runFn (⟨Try.prog,[(43,ctrV C_tmd hardD)],[E_of Try.prog 57,E_of Try.prog 72],dkHo,Id'.one,60⟩:Sy Td) [] Try.f105 [.agg [.v (.int .i64 x),.v (.int .i64 y),.v (.int .i64 z)],.one (.ptr 0 0)] (roM [⟨.blk [.ptr 1 0],false⟩,⟨.bx [.obj 2],true⟩,⟨.us (.ext (.mp T)),true⟩])).al []) (fun u=>u=.bool (mdE T x y z==0))=some qs∧∀ q∈qs,q:=
 ⟨[Value.bool (mdE T x y z==(0:Int))=Value.bool (mdE T x y z==(0:Int))],by kernel_rfl,(by refine mcons ?_ mnil<;>first|rfl|trivial)⟩
def C_kS:CtrV Td:=fun us sub=>match us,sub with
 |[.agg [.v (.int .i64 x),.v (.int .i64 y),.v (.int .i64 z)],.one (.ptr 0 0)],[⟨.blk [.ptr 1 0],false⟩,⟨.bx [.obj 2],false⟩,⟨.us (.ext (.mp T)),false⟩]=>some ([],.bool (mdE T x y z==0))
 |_,_=>none
theorem C_kS_ok:CtrVOk Try.prog Id' 105 C_kS:=by
 intro us sub ps x h hp w e vs hM ha
 unfold C_kS at h
 split at h
 ·rename_i x y z T
  simp only [Option.some.injEq,Prod.mk.injEq] at h
  obtain ⟨rfl,rfl⟩:=h
  exact ctrv_way (I:=Id') (fun (W0:World) (G:Nat→Prop)=>SyOk.mk2 Try.mixed dkHo_ok (FnsR.cons (R_tmd) (FnsR.nil)) (E_of_ok (by kernel_rfl) (E_of_ok (by kernel_rfl) (EqsOk.nil)))) rfl Try.func105 (by kernel_rfl) (fun W0 G=>LpsOk.nil _) (cs:=[]) (by kernel_rfl) (kS_w0 T x y z ) w e vs hM ha
 ·cases h
theorem RN_kS:RowOk Try.prog Id' hardD 105 (ctrVn 3 C_kS hardD):=ctrVn_ok 3 Try.call105 C_kS_ok
def hitD (a b c:Int) (r:Rw):Bool:=r.is.getD 0 0==a&&(r.is.getD 1 0==b&&true)&&(r.is.getD 2 0==c&&true)
def hitG (c:Int) (r:Rw):Bool:=r.is.getD 2 0==c
def hitC (a b:Int) (r:Rw):Bool:=r.is.getD 0 0==a&&(r.is.getD 1 0==b&&true)
def hitS (T:List ((Int×Int)×Int)) (r:Rw):Bool:=mdE T (r.is.getD 0 0) (r.is.getD 1 0) (r.is.getD 2 0)==0
def pkW (p:Rw→Bool) (Y:List Rw) (i:Int):Bool:=!p (Y.getD i.toNat Rw.zero)
theorem pkW_no {p:Rw→Bool} {Y:List Rw} {i:Int} (h:pkW p Y i=true):p (Y.getD i.toNat Rw.zero)=false:=by simpa [pkW] using h
theorem pkW_yes {p:Rw→Bool} {Y:List Rw} {i:Int} (h:pkW p Y i=false):p (Y.getD i.toNat Rw.zero)=true:=by simpa [pkW] using h
def dlW (p:Rw→Bool) (Q:List Rw) (i0:Nat):Nat→List Rw×Nat
 |0=>(Q,i0)
 |k+1=>bif !p ((dlW p Q i0 k).1.getD (i0+1+k) Rw.zero) then ((dlW p Q i0 k).1.set (dlW p Q i0 k).2 (nr3 ((dlW p Q i0 k).1.getD (i0+1+k) Rw.zero)),(dlW p Q i0 k).2+1) else dlW p Q i0 k
theorem dlW_len (p:Rw→Bool) (Q:List Rw) (i0:Nat):∀ k,(dlW p Q i0 k).1.length=Q.length∧(dlW p Q i0 k).2≤i0+k
 |0=>⟨rfl,Nat.le_refl _⟩
 |k+1=>by
  obtain ⟨h1,h2⟩:=dlW_len p Q i0 k
  unfold dlW
  cases (!p ((dlW p Q i0 k).1.getD (i0+1+k) Rw.zero)) with
  |true=>exact ⟨by simp only [cond_true,List.length_set];exact h1,by simp only [cond_true];omega⟩
  |false=>exact ⟨by simp only [cond_false];exact h1,by simp only [cond_false];omega⟩
theorem dlW_inv (p:Rw→Bool) (R:List Rw) (i0:Nat) (hn:R.map nr3=R) (hi:i0<R.length) (h0:p (R.getD i0 Rw.zero)=true) (hk0:∀ q,q<i0→p (R.getD q Rw.zero)=false):∀ k,i0+1+k≤R.length→
  (dlW p R i0 k).1.take (dlW p R i0 k).2=(R.take (i0+1+k)).filter (fun r=>!p r)∧∀ q,i0+1+k≤q→(dlW p R i0 k).1[q]? =R[q]?
 |0,_=>by
  refine ⟨?_,fun q _=>rfl⟩
  show R.take i0=(R.take (i0+1)).filter (fun r=>!p r)
  have hx:R.getD i0 Rw.zero=R[i0]:=by rw [List.getD_eq_getElem?_getD,List.getElem?_eq_getElem hi];rfl
  rw [List.take_add_one,List.getElem?_eq_getElem hi,List.filter_append]
  rw [hx] at h0
  rw [show (some R[i0]).toList=[R[i0]] from rfl,show List.filter (fun r=>!p r) [R[i0]]=[] by simp [h0],List.append_nil]
  symm
  rw [List.filter_eq_self]
  intro x hx'
  obtain ⟨q,hq,rfl⟩:=List.mem_iff_getElem.1 hx'
  rw [List.length_take] at hq
  have:=hk0 q (by omega)
  rw [List.getD_eq_getElem?_getD,List.getElem?_eq_getElem (by omega)] at this
  simpa using this
 |k+1,hk=>by
  obtain ⟨h1,h2⟩:=dlW_inv p R i0 hn hi h0 hk0 k (by omega)
  obtain ⟨g1,g2⟩:=dlW_len p R i0 k
  have hj:i0+1+k<R.length:=by omega
  have hx:(dlW p R i0 k).1.getD (i0+1+k) Rw.zero=R[i0+1+k]:=by rw [List.getD_eq_getElem?_getD,h2 _ (Nat.le_refl _),List.getElem?_eq_getElem hj];rfl
  have hnx:nr3 R[i0+1+k]=R[i0+1+k]:=by
   have:=congrArg (fun l=>l[i0+1+k]?) hn
   simp only [List.getElem?_map,List.getElem?_eq_getElem hj,Option.map_some,Option.some.injEq] at this
   exact this
  have htk:R.take (i0+1+(k+1))=R.take (i0+1+k)++[R[i0+1+k]]:=by
   rw [show i0+1+(k+1)=i0+1+k+1 by omega,List.take_add_one,List.getElem?_eq_getElem hj];rfl
  rw [htk,List.filter_append]
  unfold dlW
  rw [hx]
  cases hq:p R[i0+1+k] with
  |false=>
   simp only [Bool.not_false,cond_true]
   refine ⟨?_,fun q hq'=>?_⟩
   ·rw [hnx,←h1,show List.filter (fun r=>!p r) [R[i0+1+k]]=[R[i0+1+k]] by simp [hq],List.take_add_one,List.getElem?_set_self (by omega)]
    rw [List.take_set_of_le (Nat.le_refl _)]
    rfl
   ·rw [List.getElem?_set_ne (by omega)]
    exact h2 q (by omega)
  |true=>
   simp only [Bool.not_true,cond_false]
   refine ⟨?_,fun q hq'=>h2 q (by omega)⟩
   rw [h1,show List.filter (fun r=>!p r) [R[i0+1+k]]=[] by simp [hq],List.append_nil]
theorem dlW_all {R:List Rw} {p:Rw→Bool} (h:∀ i:Int,((0:Nat):Int)≤i→i.toNat<R.length→pkW p R i=true):R.filter (fun r=>!p r)=R:=by
 rw [List.filter_eq_self]
 intro x hx
 obtain ⟨q,hq,rfl⟩:=List.mem_iff_getElem.1 hx
 have:=pkW_no (h (q:Int) (by omega) (by simpa using hq))
 rw [Int.toNat_natCast,List.getD_eq_getElem?_getD,List.getElem?_eq_getElem hq] at this
 simpa using this
theorem ixD_n (Y:List Rw) (a b c:Int) (i i2:Int) (k:Nat) (f:Nat→Value) (h0:decide (i<(Y.length:Int))=true) (h1:IntKind.i64.wrap (i+1)=i2) (h2:0≤i∧i.toNat<Y.length) (h3:pkW (hitD a b c) Y (i)=true):∃ qs,alN Id' 3 [(8,.c (.one (.v (.int .i64 i2))))] [⟨.us (.ext (.flat (.rw 72 [false,false,false] Y))),false⟩,⟨.blk [.v (.int .i64 a),.v (.int .i64 b)],false⟩,⟨.blk [.v (.int .i64 c)],false⟩] ((symC (⟨Try.prog,[(108,ctrV C_kD hardD)],[E_of Try.prog 57,E_of Try.prog 72],dkHo,Id'.one,60⟩:Sy Td) [] 19 (hdC (loopsC (bodyOf Try.f173)) 0) ⟨[(8,.c (.one (.v (.int .i64 i))))]++anyB' (writesC (hdC (loopsC (bodyOf Try.f173)) 0)) ([(0,.c (.one (.obj 0))),(1,.c (.fn 108 [.ptr 1 0,.ptr 2 0])),(7,.c (.one (.v (.int .i64 (Y.length:Int)))))]++tabV f 19),[⟨.us (.ext (.flat (.rw 72 [false,false,false] Y))),false⟩,⟨.blk [.v (.int .i64 a),.v (.int .i64 b)],false⟩,⟨.blk [.v (.int .i64 c)],false⟩],0⟩).al [true,false])=some qs∧∀ q∈qs,q:=
 ⟨[decide (i<(↑Y.length:Int))=true,(0:Int)≤i∧i.toNat<(FL.rw 72 [false,false,false] Y).n,((Y.getD i.toNat Rw.zero).is.getD (0:Nat) (0:Int)==a&&((Y.getD i.toNat Rw.zero).is.getD ((0:Nat)+(1:Nat)) (0:Int)==b&&true)&&((Y.getD i.toNat Rw.zero).is.getD ((0:Nat)+(1:Nat)+(1:Nat)) (0:Int)==c&&true))=false,(Th.ext (Dk.flat (FL.rw 72 [false,false,false] Y)):Td)=Th.ext (Dk.flat (FL.rw 72 [false,false,false] Y)),Value.int IntKind.i64 a=Value.int IntKind.i64 a,Value.int IntKind.i64 b=Value.int IntKind.i64 b,Value.int IntKind.i64 c=Value.int IntKind.i64 c,Value.int IntKind.i64 (IntKind.i64.wrap (i+(1:Int)))=Value.int IntKind.i64 i2],by kernel_rfl,(by refine mcons ?_ (mcons ?_ (mcons ?_ (mcons ?_ (mcons ?_ (mcons ?_ (mcons ?_ (mcons ?_ mnil)))))))<;>first|rfl|exact h0|exact h1|exact h2|exact h3|trivial|(exact congrArg _ h1)|(exact h2)|(exact pkW_no h3)|(exact pkW_yes h3))⟩
theorem ixD_x (Y:List Rw) (a b c:Int) (i i2:Int) (k:Nat) (f:Nat→Value) (h0:decide (i<(Y.length:Int))=false):∃ qs,alX Id' 3 0 [] [⟨.us (.ext (.flat (.rw 72 [false,false,false] Y))),false⟩,⟨.blk [.v (.int .i64 a),.v (.int .i64 b)],false⟩,⟨.blk [.v (.int .i64 c)],false⟩] ((symC (⟨Try.prog,[(108,ctrV C_kD hardD)],[E_of Try.prog 57,E_of Try.prog 72],dkHo,Id'.one,60⟩:Sy Td) [] 19 (hdC (loopsC (bodyOf Try.f173)) 0) ⟨[(8,.c (.one (.v (.int .i64 i))))]++anyB' (writesC (hdC (loopsC (bodyOf Try.f173)) 0)) ([(0,.c (.one (.obj 0))),(1,.c (.fn 108 [.ptr 1 0,.ptr 2 0])),(7,.c (.one (.v (.int .i64 (Y.length:Int)))))]++tabV f 19),[⟨.us (.ext (.flat (.rw 72 [false,false,false] Y))),false⟩,⟨.blk [.v (.int .i64 a),.v (.int .i64 b)],false⟩,⟨.blk [.v (.int .i64 c)],false⟩],0⟩).al [false])=some qs∧∀ q∈qs,q:=
 ⟨[decide (i<(↑Y.length:Int))=false,(Th.ext (Dk.flat (FL.rw 72 [false,false,false] Y)):Td)=Th.ext (Dk.flat (FL.rw 72 [false,false,false] Y)),Value.int IntKind.i64 a=Value.int IntKind.i64 a,Value.int IntKind.i64 b=Value.int IntKind.i64 b,Value.int IntKind.i64 c=Value.int IntKind.i64 c],by kernel_rfl,(by refine mcons ?_ (mcons ?_ (mcons ?_ (mcons ?_ (mcons ?_ mnil))))<;>first|rfl|exact h0|trivial|(exact congrArg _ h1)|(exact h2)|(exact pkW_no h3)|(exact pkW_yes h3))⟩
theorem ixD_lpA (Y:List Rw) (a b c:Int) (hL:Y.length≤100000)  (hall:∀ i:Int,0≤i→i.toNat<Y.length→pkW (hitD a b c) Y (i)=true) {W0:World} {G:Nat→Prop} (S0:Sy Td) (hS0:S0.P=Try.prog):LoopSound S0 Id' W0 G 19 (hdC (loopsC (bodyOf Try.f173)) 0) (lpG Id' 19 (hdC (loopsC (bodyOf Try.f173)) 0) 3 [(8,.c (.one (.v (.int .i64 ((0+0:Nat):Int)))))] [(0,.c (.one (.obj 0))),(1,.c (.fn 108 [.ptr 1 0,.ptr 2 0])),(7,.c (.one (.v (.int .i64 (Y.length:Int)))))] [⟨.us (.ext (.flat (.rw 72 [false,false,false] Y))),false⟩,⟨.blk [.v (.int .i64 a),.v (.int .i64 b)],false⟩,⟨.blk [.v (.int .i64 c)],false⟩] (.leaf (.exit 0) [] [⟨.us (.ext (.flat (.rw 72 [false,false,false] Y))),false⟩,⟨.blk [.v (.int .i64 a),.v (.int .i64 b)],false⟩,⟨.blk [.v (.int .i64 c)],false⟩])):=by
 refine lp_sound (V:=fun k=>[(8,.c (.one (.v (.int .i64 ((k+0:Nat):Int)))))]) (M:=(fun k=>[⟨.us (.ext (.flat (.rw 72 [false,false,false] Y))),false⟩,⟨.blk [.v (.int .i64 a),.v (.int .i64 b)],false⟩,⟨.blk [.v (.int .i64 c)],false⟩]:Nat→Mem Td)) (N:=Y.length) (Ux:=fun k x=>match x with|.exit 0=>some ([],([⟨.us (.ext (.flat (.rw 72 [false,false,false] Y))),false⟩,⟨.blk [.v (.int .i64 a),.v (.int .i64 b)],false⟩,⟨.blk [.v (.int .i64 c)],false⟩]:Mem Td))|_=>none) (X:=fun _ _=>True) (J:=fun k=>True) (fun k=>by kernel_rfl) trivial (fun k hk hJ f=>?_) (fun K hK k x U hk hU hX=>?_)
 ·rw [hS0]
  cases hT:decide (((k+0:Nat):Int)<(Y.length:Int)) with
  |false=>
   exact rnd_xD (⟨Try.prog,[(108,ctrV C_kD hardD)],[E_of Try.prog 57,E_of Try.prog 72],dkHo,Id'.one,60⟩:Sy Td) rfl ((fun (W0:World) (G:Nat→Prop)=>SyOk.mk2 Try.mixed dkHo_ok (FnsR.cons (R_kD) (FnsR.nil)) (E_of_ok (by kernel_rfl) (E_of_ok (by kernel_rfl) (EqsOk.nil)))) W0 G) (ixD_x Y a b c ((k+0:Nat):Int) ((k+1+0:Nat):Int) k f hT) rfl trivial
  |true=>
   have hk1:=of_decide_eq_true hT
   have hW:IntKind.i64.wrap (((k+0:Nat):Int)+1)=((k+1+0:Nat):Int):=by rw [IntWalk.i64_in _ (by omega)];omega
   exact rnd_nD (⟨Try.prog,[(108,ctrV C_kD hardD)],[E_of Try.prog 57,E_of Try.prog 72],dkHo,Id'.one,60⟩:Sy Td) rfl ((fun (W0:World) (G:Nat→Prop)=>SyOk.mk2 Try.mixed dkHo_ok (FnsR.cons (R_kD) (FnsR.nil)) (E_of_ok (by kernel_rfl) (E_of_ok (by kernel_rfl) (EqsOk.nil)))) W0 G) (ixD_n Y a b c ((k+0:Nat):Int) ((k+1+0:Nat):Int) k f hT hW (by omega) (hall _ (by omega) (by omega)) ) rfl rfl (by omega) trivial
 ·revert hU
  match x with
  |.exit 0=>intro hU;simp only [Option.some.injEq] at hU;subst hU;exact hK
  |.normal=>intro hU;cases hU
  |.ret=>intro hU;cases hU
  |.exit (n+1)=>intro hU;cases hU
theorem ixD_r (Y:List Rw) (a b c:Int) (i i2:Int) (k:Nat) (f:Nat→Value) (h0:decide (i<(Y.length:Int))=true) (h1:i=i2) (h2:0≤i∧i.toNat<Y.length) (h3:pkW (hitD a b c) Y (i)=false):∃ qs,alR Id' 3 [(4,.c (.one (.v (.int .i64 i2))))] [⟨.us (.ext (.flat (.rw 72 [false,false,false] Y))),false⟩,⟨.blk [.v (.int .i64 a),.v (.int .i64 b)],false⟩,⟨.blk [.v (.int .i64 c)],false⟩] ((symC (⟨Try.prog,[(108,ctrV C_kD hardD)],[E_of Try.prog 57,E_of Try.prog 72],dkHo,Id'.one,60⟩:Sy Td) [] 19 (hdC (loopsC (bodyOf Try.f173)) 0) ⟨[(8,.c (.one (.v (.int .i64 i))))]++anyB' (writesC (hdC (loopsC (bodyOf Try.f173)) 0)) ([(0,.c (.one (.obj 0))),(1,.c (.fn 108 [.ptr 1 0,.ptr 2 0])),(7,.c (.one (.v (.int .i64 (Y.length:Int)))))]++tabV f 19),[⟨.us (.ext (.flat (.rw 72 [false,false,false] Y))),false⟩,⟨.blk [.v (.int .i64 a),.v (.int .i64 b)],false⟩,⟨.blk [.v (.int .i64 c)],false⟩],0⟩).al [true,true])=some qs∧∀ q∈qs,q:=
 ⟨[decide (i<(↑Y.length:Int))=true,(0:Int)≤i∧i.toNat<(FL.rw 72 [false,false,false] Y).n,((Y.getD i.toNat Rw.zero).is.getD (0:Nat) (0:Int)==a&&((Y.getD i.toNat Rw.zero).is.getD ((0:Nat)+(1:Nat)) (0:Int)==b&&true)&&((Y.getD i.toNat Rw.zero).is.getD ((0:Nat)+(1:Nat)+(1:Nat)) (0:Int)==c&&true))=true,(Th.ext (Dk.flat (FL.rw 72 [false,false,false] Y)):Td)=Th.ext (Dk.flat (FL.rw 72 [false,false,false] Y)),Value.int IntKind.i64 a=Value.int IntKind.i64 a,Value.int IntKind.i64 b=Value.int IntKind.i64 b,Value.int IntKind.i64 c=Value.int IntKind.i64 c,Value.int IntKind.i64 i=Value.int IntKind.i64 i2],by kernel_rfl,(by refine mcons ?_ (mcons ?_ (mcons ?_ (mcons ?_ (mcons ?_ (mcons ?_ (mcons ?_ (mcons ?_ mnil)))))))<;>first|rfl|exact h0|exact h1|exact h2|exact h3|trivial|(exact congrArg _ h1)|(exact h2)|(exact pkW_no h3)|(exact pkW_yes h3))⟩
theorem ixD_lpR (Y:List Rw) (a b c:Int) (e:Int) (hL:Y.length≤100000)  (he0:0≤e∧e.toNat<Y.length) (he1:pkW (hitD a b c) Y (e)=false) (he2:∀ i:Int,0≤i→i<e→pkW (hitD a b c) Y (i)=true) {W0:World} {G:Nat→Prop} (S0:Sy Td) (hS0:S0.P=Try.prog):LoopSound S0 Id' W0 G 19 (hdC (loopsC (bodyOf Try.f173)) 0) (lpG Id' 19 (hdC (loopsC (bodyOf Try.f173)) 0) 3 [(8,.c (.one (.v (.int .i64 ((0+0:Nat):Int)))))] [(0,.c (.one (.obj 0))),(1,.c (.fn 108 [.ptr 1 0,.ptr 2 0])),(7,.c (.one (.v (.int .i64 (Y.length:Int)))))] [⟨.us (.ext (.flat (.rw 72 [false,false,false] Y))),false⟩,⟨.blk [.v (.int .i64 a),.v (.int .i64 b)],false⟩,⟨.blk [.v (.int .i64 c)],false⟩] (.leaf .ret [(4,.c (.one (.v (.int .i64 e))))] [⟨.us (.ext (.flat (.rw 72 [false,false,false] Y))),false⟩,⟨.blk [.v (.int .i64 a),.v (.int .i64 b)],false⟩,⟨.blk [.v (.int .i64 c)],false⟩])):=by
 refine lp_sound (V:=fun k=>[(8,.c (.one (.v (.int .i64 ((k+0:Nat):Int)))))]) (M:=(fun k=>[⟨.us (.ext (.flat (.rw 72 [false,false,false] Y))),false⟩,⟨.blk [.v (.int .i64 a),.v (.int .i64 b)],false⟩,⟨.blk [.v (.int .i64 c)],false⟩]:Nat→Mem Td)) (N:=Y.length) (Ux:=fun k x=>match x with|.ret=>some ([(4,.c (.one (.v (.int .i64 e))))],([⟨.us (.ext (.flat (.rw 72 [false,false,false] Y))),false⟩,⟨.blk [.v (.int .i64 a),.v (.int .i64 b)],false⟩,⟨.blk [.v (.int .i64 c)],false⟩]:Mem Td))|_=>none) (X:=fun _ _=>True) (J:=fun k=>((k+0:Nat):Int)≤e) (fun k=>by kernel_rfl) (by omega) (fun k hk hJ f=>?_) (fun K hK k x U hk hU hX=>?_)
 ·rw [hS0]
  cases hT:decide (((k+0:Nat):Int)<(Y.length:Int)) with
  |false=>
   have:=of_decide_eq_false hT
   omega
  |true=>
   have hk1:=of_decide_eq_true hT
   have hW:IntKind.i64.wrap (((k+0:Nat):Int)+1)=((k+1+0:Nat):Int):=by rw [IntWalk.i64_in _ (by omega)];omega
   cases hq:pkW (hitD a b c) Y (((k+0:Nat):Int)) with
   |true=>
    exact rnd_nD (⟨Try.prog,[(108,ctrV C_kD hardD)],[E_of Try.prog 57,E_of Try.prog 72],dkHo,Id'.one,60⟩:Sy Td) rfl ((fun (W0:World) (G:Nat→Prop)=>SyOk.mk2 Try.mixed dkHo_ok (FnsR.cons (R_kD) (FnsR.nil)) (E_of_ok (by kernel_rfl) (E_of_ok (by kernel_rfl) (EqsOk.nil)))) W0 G) (ixD_n Y a b c ((k+0:Nat):Int) ((k+1+0:Nat):Int) k f hT hW (by omega) hq ) rfl rfl (by omega) (by
     rcases Int.lt_or_eq_of_le hJ with h|h
     ·omega
     ·rw [h,he1] at hq;cases hq)
   |false=>
    have hie:((k+0:Nat):Int)=e:=by
     rcases Int.lt_or_eq_of_le hJ with h|h
     ·rw [he2 _ (by omega) h] at hq;cases hq
     ·exact h
    exact rnd_rD (⟨Try.prog,[(108,ctrV C_kD hardD)],[E_of Try.prog 57,E_of Try.prog 72],dkHo,Id'.one,60⟩:Sy Td) rfl ((fun (W0:World) (G:Nat→Prop)=>SyOk.mk2 Try.mixed dkHo_ok (FnsR.cons (R_kD) (FnsR.nil)) (E_of_ok (by kernel_rfl) (E_of_ok (by kernel_rfl) (EqsOk.nil)))) W0 G) (ixD_r Y a b c ((k+0:Nat):Int) e k f hT hie (by omega) hq ) rfl trivial
 ·revert hU
  match x with
  |.ret=>intro hU;simp only [Option.some.injEq] at hU;subst hU;exact hK
  |.normal=>intro hU;cases hU
  |.exit n=>intro hU;cases hU
theorem ixDA_w0 (Y:List Rw) (a b c:Int) :∃ qs,wayV ((runFn (⟨Try.prog,[(108,ctrV C_kD hardD)],[E_of Try.prog 57,E_of Try.prog 72],dkHo,Id'.one,60⟩:Sy Td) [(2,(lpG Id' 19 (hdC (loopsC (bodyOf Try.f173)) 0) 3 [(8,.c (.one (.v (.int .i64 ((0+0:Nat):Int)))))] [(0,.c (.one (.obj 0))),(1,.c (.fn 108 [.ptr 1 0,.ptr 2 0])),(7,.c (.one (.v (.int .i64 (Y.length:Int)))))] [⟨.us (.ext (.flat (.rw 72 [false,false,false] Y))),false⟩,⟨.blk [.v (.int .i64 a),.v (.int .i64 b)],false⟩,⟨.blk [.v (.int .i64 c)],false⟩] (.leaf (.exit 0) [] [⟨.us (.ext (.flat (.rw 72 [false,false,false] Y))),false⟩,⟨.blk [.v (.int .i64 a),.v (.int .i64 b)],false⟩,⟨.blk [.v (.int .i64 c)],false⟩])))] Try.f173 [.one (.obj 0),.fn 108 [.ptr 1 0,.ptr 2 0]] (roM [⟨.us (.ext (.flat (.rw 72 [false,false,false] Y))),true⟩,⟨.blk [.v (.int .i64 a),.v (.int .i64 b)],false⟩,⟨.blk [.v (.int .i64 c)],false⟩])).al []) (fun u=>u=.int .i64 (-1))=some qs∧∀ q∈qs,q:=
 ⟨[Value.int IntKind.i64 (Int.negSucc 0)=Value.int IntKind.i64 (Int.negSucc 0),Value.int IntKind.i64 (↑(FL.rw 72 [false,false,false] Y).n:Int)=Value.int IntKind.i64 (↑Y.length:Int),(Th.ext (Dk.flat (FL.rw 72 [false,false,false] Y)):Td)=Th.ext (Dk.flat (FL.rw 72 [false,false,false] Y)),Value.int IntKind.i64 a=Value.int IntKind.i64 a,Value.int IntKind.i64 b=Value.int IntKind.i64 b,Value.int IntKind.i64 c=Value.int IntKind.i64 c,Value.int IntKind.i64 (Int.ofNat 0)=Value.int IntKind.i64 (Int.ofNat ((0:Nat)+(0:Nat)))],by kernel_rfl,(by refine mcons ?_ (mcons ?_ (mcons ?_ (mcons ?_ (mcons ?_ (mcons ?_ (mcons ?_ mnil))))))<;>first|rfl|trivial)⟩
theorem ixDR_w0 (Y:List Rw) (a b c:Int) (e:Int) :∃ qs,wayV ((runFn (⟨Try.prog,[(108,ctrV C_kD hardD)],[E_of Try.prog 57,E_of Try.prog 72],dkHo,Id'.one,60⟩:Sy Td) [(2,(lpG Id' 19 (hdC (loopsC (bodyOf Try.f173)) 0) 3 [(8,.c (.one (.v (.int .i64 ((0+0:Nat):Int)))))] [(0,.c (.one (.obj 0))),(1,.c (.fn 108 [.ptr 1 0,.ptr 2 0])),(7,.c (.one (.v (.int .i64 (Y.length:Int)))))] [⟨.us (.ext (.flat (.rw 72 [false,false,false] Y))),false⟩,⟨.blk [.v (.int .i64 a),.v (.int .i64 b)],false⟩,⟨.blk [.v (.int .i64 c)],false⟩] (.leaf .ret [(4,.c (.one (.v (.int .i64 e))))] [⟨.us (.ext (.flat (.rw 72 [false,false,false] Y))),false⟩,⟨.blk [.v (.int .i64 a),.v (.int .i64 b)],false⟩,⟨.blk [.v (.int .i64 c)],false⟩])))] Try.f173 [.one (.obj 0),.fn 108 [.ptr 1 0,.ptr 2 0]] (roM [⟨.us (.ext (.flat (.rw 72 [false,false,false] Y))),true⟩,⟨.blk [.v (.int .i64 a),.v (.int .i64 b)],false⟩,⟨.blk [.v (.int .i64 c)],false⟩])).al []) (fun u=>u=.int .i64 e)=some qs∧∀ q∈qs,q:=
 ⟨[Value.int IntKind.i64 e=Value.int IntKind.i64 e,Value.int IntKind.i64 (↑(FL.rw 72 [false,false,false] Y).n:Int)=Value.int IntKind.i64 (↑Y.length:Int),(Th.ext (Dk.flat (FL.rw 72 [false,false,false] Y)):Td)=Th.ext (Dk.flat (FL.rw 72 [false,false,false] Y)),Value.int IntKind.i64 a=Value.int IntKind.i64 a,Value.int IntKind.i64 b=Value.int IntKind.i64 b,Value.int IntKind.i64 c=Value.int IntKind.i64 c,Value.int IntKind.i64 (Int.ofNat 0)=Value.int IntKind.i64 (Int.ofNat ((0:Nat)+(0:Nat)))],by kernel_rfl,(by refine mcons ?_ (mcons ?_ (mcons ?_ (mcons ?_ (mcons ?_ (mcons ?_ (mcons ?_ mnil))))))<;>first|rfl|trivial)⟩
def C_ixD:CtrV Td:=fun us sub=>match us,sub with
 |[.one (.obj 0),.fn 108 [.ptr 1 0,.ptr 2 0]],[⟨.us (.ext (.flat (.rw 72 [false,false,false] Y))),false⟩,⟨.blk [.v (.int .i64 a),.v (.int .i64 b)],false⟩,⟨.blk [.v (.int .i64 c)],false⟩]=>some ([Y.length≤100000],.int .i64 (fstI Y.length (pkW (hitD a b c) Y)))
 |_,_=>none
theorem C_ixD_ok:CtrVOk Try.prog Id' 173 C_ixD:=by
 intro us sub ps x h hp w e vs hM ha
 unfold C_ixD at h
 split at h
 ·rename_i Y a b c
  simp only [Option.some.injEq,Prod.mk.injEq] at h
  obtain ⟨rfl,rfl⟩:=h
  have hL:Y.length≤100000:=hp _ (List.mem_cons_self ..)
  rcases fst_cases Y.length (pkW (hitD a b c) Y) with ⟨hv,hall⟩|⟨h1,h2,h3,h4⟩
  ·rw [hv]
   exact ctrv_way (I:=Id') (fun (W0:World) (G:Nat→Prop)=>SyOk.mk2 Try.mixed dkHo_ok (FnsR.cons (R_kD) (FnsR.nil)) (E_of_ok (by kernel_rfl) (E_of_ok (by kernel_rfl) (EqsOk.nil)))) rfl Try.func173 (by kernel_rfl) (fun W0 G=>LpsOk.cons (by kernel_rfl) (ixD_lpA Y a b c hL hall _ rfl) (LpsOk.nil _)) (cs:=[]) (by kernel_rfl) (ixDA_w0 Y a b c ) w e vs hM ha
  ·exact ctrv_way (I:=Id') (fun (W0:World) (G:Nat→Prop)=>SyOk.mk2 Try.mixed dkHo_ok (FnsR.cons (R_kD) (FnsR.nil)) (E_of_ok (by kernel_rfl) (E_of_ok (by kernel_rfl) (EqsOk.nil)))) rfl Try.func173 (by kernel_rfl) (fun W0 G=>LpsOk.cons (by kernel_rfl) (ixD_lpR Y a b c _ hL ⟨h1,h2⟩ h3 h4 _ rfl) (LpsOk.nil _)) (cs:=[]) (by kernel_rfl) (ixDR_w0 Y a b c _ ) w e vs hM ha
 ·cases h
theorem R_ixD:RowOk Try.prog Id' hardD 173 (ctrV C_ixD hardD):=ctrV_ok Try.call173 C_ixD_ok
theorem own_self {W0:World} {G:Nat→Prop} {w:World} {e:Env} {mem:Mem Td} (hM:MemOk W0 G Id' w e mem) {i x:Nat} {ks:List Bool} {R:List Rw} {v:Value} (hm:mem[i]? =some ⟨.us (.ext (.flat (.rw x ks R))),true⟩) (hv:e[i]? =some v):(PV.sub i ks.length 0 R.length).is e v:=by
 obtain ⟨z0,B,hB,hown⟩:=hM.holds i _ _ hv hm
 rw [FL.len] at hown
 obtain ⟨_,ao,cap,hvv,hcap,_⟩:=Rs.of_owns hown
 have hvv:v=.slice ao R.length cap:=hvv
 refine ⟨ao,R.length,cap,by rw [← hvv];exact hv,Nat.zero_le _,Nat.le_refl _,?_⟩
 rw [hvv,Nat.sub_zero,Nat.sub_zero,Nat.zero_mul]
 cases ao with
 |none=>split<;>rfl
 |some y=>
  split
  ·rfl
  ·simp [Addr.add]
theorem dfD_n1 (X Y:List Rw) (a b c:Int) (i i2 j j2:Int) (k:Nat) (f:Nat→Value) (h0:decide (j<(X.length:Int))=true) (h1:0≤j∧j.toNat<X.length) (h2:(!(hitD a b c (X.getD j.toNat Rw.zero)))=true) (h3:0≤i∧i.toNat<X.length) (h4:X.set i.toNat (nr3 (X.getD j.toNat Rw.zero))=Y) (h5:IntKind.i64.wrap (j+1)=j2) (h6:IntKind.i64.wrap (i+1)=i2):∃ qs,alN Id' 3 [(6,.c (.one (.v (.int .i64 j2)))),(5,.c (.one (.v (.int .i64 i2))))] [⟨.us (.ext (.flat (.rw 72 [false,false,false] Y))),true⟩,⟨.blk [.v (.int .i64 a),.v (.int .i64 b)],false⟩,⟨.blk [.v (.int .i64 c)],false⟩] ((symC (⟨Try.prog,[(108,ctrV C_kD hardD)],[E_of Try.prog 57,E_of Try.prog 72],dkHo,Id'.one,60⟩:Sy Td) [] 42 (hdC (loopsC (bodyOf Try.f151)) 0) ⟨[(6,.c (.one (.v (.int .i64 j)))),(5,.c (.one (.v (.int .i64 i))))]++anyB' (writesC (hdC (loopsC (bodyOf Try.f151)) 0)) ([(0,.c (.one (.obj 0))),(1,.c (.fn 108 [.ptr 1 0,.ptr 2 0]))]++tabV f 42),[⟨.us (.ext (.flat (.rw 72 [false,false,false] X))),true⟩,⟨.blk [.v (.int .i64 a),.v (.int .i64 b)],false⟩,⟨.blk [.v (.int .i64 c)],false⟩],0⟩).al [true,true])=some qs∧∀ q∈qs,q:=
 ⟨[decide (j<(↑(FL.rw 72 [false,false,false] X).n:Int))=true,(0:Int)≤j∧j.toNat<(FL.rw 72 [false,false,false] X).n,(!((X.getD j.toNat Rw.zero).is.getD (0:Nat) (0:Int)==a&&((X.getD j.toNat Rw.zero).is.getD ((0:Nat)+(1:Nat)) (0:Int)==b&&true)&&((X.getD j.toNat Rw.zero).is.getD ((0:Nat)+(1:Nat)+(1:Nat)) (0:Int)==c&&true)))=true,(0:Int)≤i∧i.toNat<(FL.rw 72 [false,false,false] X).n,(Th.ext (Dk.flat (FL.rw 72 [false,false,false] (X.set i.toNat (nr3 (X.getD j.toNat Rw.zero))))):Td)=Th.ext (Dk.flat (FL.rw 72 [false,false,false] Y)),Value.int IntKind.i64 a=Value.int IntKind.i64 a,Value.int IntKind.i64 b=Value.int IntKind.i64 b,Value.int IntKind.i64 c=Value.int IntKind.i64 c,Value.int IntKind.i64 (IntKind.i64.wrap (j+(1:Int)))=Value.int IntKind.i64 j2,Value.int IntKind.i64 (IntKind.i64.wrap (i+(1:Int)))=Value.int IntKind.i64 i2],by kernel_rfl,(by refine mcons ?_ (mcons ?_ (mcons ?_ (mcons ?_ (mcons ?_ (mcons ?_ (mcons ?_ (mcons ?_ (mcons ?_ (mcons ?_ mnil)))))))))<;>first|rfl|exact h0|exact h1|exact h2|exact h3|exact h4|exact h5|exact h6|trivial|(exact congrArg (fun x=>(Th.ext (Dk.flat (FL.rw 72 [false,false,false] x)):Td)) h4)|(exact congrArg (Value.int .i64) h5)|(exact congrArg (Value.int .i64) h6))⟩
theorem dfD_n0 (X:List Rw) (a b c:Int) (i j j2:Int) (k:Nat) (f:Nat→Value) (h0:decide (j<(X.length:Int))=true) (h1:0≤j∧j.toNat<X.length) (h2:(!(hitD a b c (X.getD j.toNat Rw.zero)))=false) (h3:IntKind.i64.wrap (j+1)=j2):∃ qs,alN Id' 3 [(6,.c (.one (.v (.int .i64 j2)))),(5,.c (.one (.v (.int .i64 i))))] [⟨.us (.ext (.flat (.rw 72 [false,false,false] X))),true⟩,⟨.blk [.v (.int .i64 a),.v (.int .i64 b)],false⟩,⟨.blk [.v (.int .i64 c)],false⟩] ((symC (⟨Try.prog,[(108,ctrV C_kD hardD)],[E_of Try.prog 57,E_of Try.prog 72],dkHo,Id'.one,60⟩:Sy Td) [] 42 (hdC (loopsC (bodyOf Try.f151)) 0) ⟨[(6,.c (.one (.v (.int .i64 j)))),(5,.c (.one (.v (.int .i64 i))))]++anyB' (writesC (hdC (loopsC (bodyOf Try.f151)) 0)) ([(0,.c (.one (.obj 0))),(1,.c (.fn 108 [.ptr 1 0,.ptr 2 0]))]++tabV f 42),[⟨.us (.ext (.flat (.rw 72 [false,false,false] X))),true⟩,⟨.blk [.v (.int .i64 a),.v (.int .i64 b)],false⟩,⟨.blk [.v (.int .i64 c)],false⟩],0⟩).al [true,false])=some qs∧∀ q∈qs,q:=
 ⟨[decide (j<(↑(FL.rw 72 [false,false,false] X).n:Int))=true,(0:Int)≤j∧j.toNat<(FL.rw 72 [false,false,false] X).n,(!((X.getD j.toNat Rw.zero).is.getD (0:Nat) (0:Int)==a&&((X.getD j.toNat Rw.zero).is.getD ((0:Nat)+(1:Nat)) (0:Int)==b&&true)&&((X.getD j.toNat Rw.zero).is.getD ((0:Nat)+(1:Nat)+(1:Nat)) (0:Int)==c&&true)))=false,(Th.ext (Dk.flat (FL.rw 72 [false,false,false] X)):Td)=Th.ext (Dk.flat (FL.rw 72 [false,false,false] X)),Value.int IntKind.i64 a=Value.int IntKind.i64 a,Value.int IntKind.i64 b=Value.int IntKind.i64 b,Value.int IntKind.i64 c=Value.int IntKind.i64 c,Value.int IntKind.i64 (IntKind.i64.wrap (j+(1:Int)))=Value.int IntKind.i64 j2,Value.int IntKind.i64 i=Value.int IntKind.i64 i],by kernel_rfl,(by refine mcons ?_ (mcons ?_ (mcons ?_ (mcons ?_ (mcons ?_ (mcons ?_ (mcons ?_ (mcons ?_ (mcons ?_ mnil))))))))<;>first|rfl|exact h0|exact h1|exact h2|exact h3|trivial|(exact congrArg (Value.int .i64) h3))⟩
theorem dfD_x (X:List Rw) (a b c:Int) (i j:Int) (k:Nat) (f:Nat→Value) (h0:decide (j<(X.length:Int))=false):∃ qs,alX Id' 3 0 [(5,.c (.one (.v (.int .i64 i))))] [⟨.us (.ext (.flat (.rw 72 [false,false,false] X))),true⟩,⟨.blk [.v (.int .i64 a),.v (.int .i64 b)],false⟩,⟨.blk [.v (.int .i64 c)],false⟩] ((symC (⟨Try.prog,[(108,ctrV C_kD hardD)],[E_of Try.prog 57,E_of Try.prog 72],dkHo,Id'.one,60⟩:Sy Td) [] 42 (hdC (loopsC (bodyOf Try.f151)) 0) ⟨[(6,.c (.one (.v (.int .i64 j)))),(5,.c (.one (.v (.int .i64 i))))]++anyB' (writesC (hdC (loopsC (bodyOf Try.f151)) 0)) ([(0,.c (.one (.obj 0))),(1,.c (.fn 108 [.ptr 1 0,.ptr 2 0]))]++tabV f 42),[⟨.us (.ext (.flat (.rw 72 [false,false,false] X))),true⟩,⟨.blk [.v (.int .i64 a),.v (.int .i64 b)],false⟩,⟨.blk [.v (.int .i64 c)],false⟩],0⟩).al [false])=some qs∧∀ q∈qs,q:=
 ⟨[decide (j<(↑(FL.rw 72 [false,false,false] X).n:Int))=false,(Th.ext (Dk.flat (FL.rw 72 [false,false,false] X)):Td)=Th.ext (Dk.flat (FL.rw 72 [false,false,false] X)),Value.int IntKind.i64 a=Value.int IntKind.i64 a,Value.int IntKind.i64 b=Value.int IntKind.i64 b,Value.int IntKind.i64 c=Value.int IntKind.i64 c,Value.int IntKind.i64 i=Value.int IntKind.i64 i],by kernel_rfl,(by refine mcons ?_ (mcons ?_ (mcons ?_ (mcons ?_ (mcons ?_ (mcons ?_ mnil)))))<;>first|rfl|exact h0|trivial)⟩
theorem dfD_lp (Q:List Rw) (a b c:Int) (i0:Nat) (hR:Q.length≤100000) (hi:i0<Q.length) {W0:World} {G:Nat→Prop} (S0:Sy Td) (hS0:S0.P=Try.prog):LoopSound S0 Id' W0 G 42 (hdC (loopsC (bodyOf Try.f151)) 0) (lpG Id' 42 (hdC (loopsC (bodyOf Try.f151)) 0) 3 [(6,.c (.one (.v (.int .i64 ((i0+1+0:Nat):Int))))),(5,.c (.one (.v (.int .i64 (i0:Int)))))] [(0,.c (.one (.obj 0))),(1,.c (.fn 108 [.ptr 1 0,.ptr 2 0]))] [⟨.us (.ext (.flat (.rw 72 [false,false,false] Q))),true⟩,⟨.blk [.v (.int .i64 a),.v (.int .i64 b)],false⟩,⟨.blk [.v (.int .i64 c)],false⟩] (.leaf (.exit 0) [(5,.c (.one (.v (.int .i64 ((dlW (hitD a b c) Q i0 (Q.length - (i0+1))).2:Int)))))] [⟨.us (.ext (.flat (.rw 72 [false,false,false] (dlW (hitD a b c) Q i0 (Q.length - (i0+1))).1))),true⟩,⟨.blk [.v (.int .i64 a),.v (.int .i64 b)],false⟩,⟨.blk [.v (.int .i64 c)],false⟩])):=by
 refine lp_sound (V:=fun k=>[(6,.c (.one (.v (.int .i64 ((i0+1+k:Nat):Int))))),(5,.c (.one (.v (.int .i64 ((dlW (hitD a b c) Q i0 k).2:Int)))))]) (M:=(fun k=>[⟨.us (.ext (.flat (.rw 72 [false,false,false] (dlW (hitD a b c) Q i0 k).1))),true⟩,⟨.blk [.v (.int .i64 a),.v (.int .i64 b)],false⟩,⟨.blk [.v (.int .i64 c)],false⟩]:Nat→Mem Td)) (N:=Q.length - (i0+1)) (Ux:=fun k x=>match x with|.exit 0=>some ([(5,.c (.one (.v (.int .i64 ((dlW (hitD a b c) Q i0 (Q.length - (i0+1))).2:Int)))))],([⟨.us (.ext (.flat (.rw 72 [false,false,false] (dlW (hitD a b c) Q i0 (Q.length - (i0+1))).1))),true⟩,⟨.blk [.v (.int .i64 a),.v (.int .i64 b)],false⟩,⟨.blk [.v (.int .i64 c)],false⟩]:Mem Td))|_=>none) (X:=fun _ _=>True) (J:=fun k=>k≤Q.length - (i0+1)) (fun k=>by kernel_rfl) (Nat.zero_le _) (fun k hk hJ f=>?_) (fun K hK k x U hk hU hX=>?_)
 ·rw [hS0]
  obtain ⟨hl1,hl2⟩:=dlW_len (hitD a b c) Q i0 k
  cases hT:decide (((i0+1+k:Nat):Int)<((dlW (hitD a b c) Q i0 k).1.length:Int)) with
  |false=>
   have hke:k=Q.length - (i0+1):=by have:=of_decide_eq_false hT;omega
   subst hke
   exact rnd_xD (⟨Try.prog,[(108,ctrV C_kD hardD)],[E_of Try.prog 57,E_of Try.prog 72],dkHo,Id'.one,60⟩:Sy Td) rfl ((fun (W0:World) (G:Nat→Prop)=>SyOk.mk2 Try.mixed dkHo_ok (FnsR.cons (R_kD) (FnsR.nil)) (E_of_ok (by kernel_rfl) (E_of_ok (by kernel_rfl) (EqsOk.nil)))) W0 G) (dfD_x (dlW (hitD a b c) Q i0 (Q.length - (i0+1))).1 a b c _ _ (Q.length - (i0+1)) f hT) rfl trivial
  |true=>
   have hk1:=of_decide_eq_true hT
   have hW:IntKind.i64.wrap (((i0+1+k:Nat):Int)+1)=((i0+1+(k+1):Nat):Int):=by rw [IntWalk.i64_in _ (by omega)];omega
   cases hq:(!(hitD a b c ((dlW (hitD a b c) Q i0 k).1.getD (((i0+1+k:Nat):Int)).toNat Rw.zero))) with
   |true=>
    have hq2:(!(hitD a b c ((dlW (hitD a b c) Q i0 k).1.getD (i0+1+k) Rw.zero)))=true:=hq
    have hst:(dlW (hitD a b c) Q i0 (k+1))=((dlW (hitD a b c) Q i0 k).1.set (dlW (hitD a b c) Q i0 k).2 (nr3 ((dlW (hitD a b c) Q i0 k).1.getD (i0+1+k) Rw.zero)),(dlW (hitD a b c) Q i0 k).2+1):=by rw [dlW,hq2];rfl
    have hW2:IntKind.i64.wrap (((dlW (hitD a b c) Q i0 k).2:Int)+1)=((dlW (hitD a b c) Q i0 (k+1)).2:Int):=by rw [hst,IntWalk.i64_in _ (by omega)];show _=(((dlW (hitD a b c) Q i0 k).2+1:Nat):Int);omega
    exact rnd_nD (⟨Try.prog,[(108,ctrV C_kD hardD)],[E_of Try.prog 57,E_of Try.prog 72],dkHo,Id'.one,60⟩:Sy Td) rfl ((fun (W0:World) (G:Nat→Prop)=>SyOk.mk2 Try.mixed dkHo_ok (FnsR.cons (R_kD) (FnsR.nil)) (E_of_ok (by kernel_rfl) (E_of_ok (by kernel_rfl) (EqsOk.nil)))) W0 G) (dfD_n1 (dlW (hitD a b c) Q i0 k).1 (dlW (hitD a b c) Q i0 (k+1)).1 a b c _ _ _ _ k f hT ⟨by omega,by omega⟩ hq ⟨by omega,by omega⟩ (by rw [hst];rfl) hW hW2) rfl rfl (by omega) (by omega)
   |false=>
    have hq2:(!(hitD a b c ((dlW (hitD a b c) Q i0 k).1.getD (i0+1+k) Rw.zero)))=false:=hq
    have hst:(dlW (hitD a b c) Q i0 (k+1))=(dlW (hitD a b c) Q i0 k):=by rw [dlW,hq2];rfl
    have hn:=dfD_n0 (dlW (hitD a b c) Q i0 k).1 a b c ((dlW (hitD a b c) Q i0 k).2:Int) _ _ k f hT ⟨by omega,by omega⟩ hq hW
    refine rnd_nD (⟨Try.prog,[(108,ctrV C_kD hardD)],[E_of Try.prog 57,E_of Try.prog 72],dkHo,Id'.one,60⟩:Sy Td) rfl ((fun (W0:World) (G:Nat→Prop)=>SyOk.mk2 Try.mixed dkHo_ok (FnsR.cons (R_kD) (FnsR.nil)) (E_of_ok (by kernel_rfl) (E_of_ok (by kernel_rfl) (EqsOk.nil)))) W0 G) (by rw [hst];exact hn) rfl rfl (by omega) (by omega)
 ·revert hU
  match x with
  |.exit 0=>intro hU;simp only [Option.some.injEq] at hU;subst hU;exact hK
  |.normal=>intro hU;cases hU
  |.ret=>intro hU;cases hU
  |.exit (n+1)=>intro hU;cases hU
theorem dfDA_w0 (Q:List Rw) (a b c:Int) (h0:Q.length≤100000) (h1:(fstI Q.length (pkW (hitD a b c) Q)==(-1:Int))=true):∃ qs,wayO Id' ([⟨.us (.ext (.flat (.rw 72 [false,false,false] Q))),true⟩,⟨.blk [.v (.int .i64 a),.v (.int .i64 b)],false⟩,⟨.blk [.v (.int .i64 c)],false⟩]:Mem Td).length [⟨.us (.ext (.flat (.rw 72 [false,false,false] Q))),true⟩,⟨.blk [.v (.int .i64 a),.v (.int .i64 b)],false⟩,⟨.blk [.v (.int .i64 c)],false⟩] (.c (.one (.obj 0))) ((runFn (⟨Try.prog,[(173,ctrV C_ixD hardD),(108,ctrV C_kD hardD)],[E_of Try.prog 57,E_of Try.prog 72],dkHo,Id'.one,60⟩:Sy Td) [] Try.f151 [.one (.obj 0),.fn 108 [.ptr 1 0,.ptr 2 0]] [⟨.us (.ext (.flat (.rw 72 [false,false,false] Q))),true⟩,⟨.blk [.v (.int .i64 a),.v (.int .i64 b)],false⟩,⟨.blk [.v (.int .i64 c)],false⟩]).al [true])=some qs∧∀ q∈qs,q:=
 ⟨[Q.length≤(100000:Nat),(fstI Q.length (pkW (hitD a b c) Q)==(-1:Int))=true,(Th.ext (Dk.flat (FL.rw 72 [false,false,false] Q)):Td)=Th.ext (Dk.flat (FL.rw 72 [false,false,false] Q)),Value.int IntKind.i64 a=Value.int IntKind.i64 a,Value.int IntKind.i64 b=Value.int IntKind.i64 b,Value.int IntKind.i64 c=Value.int IntKind.i64 c],by kernel_rfl,(by refine mcons ?_ (mcons ?_ (mcons ?_ (mcons ?_ (mcons ?_ (mcons ?_ mnil)))))<;>first|rfl|exact h0|exact h1|trivial)⟩
theorem dfDB_w0 (Q:List Rw) (a b c:Int) (i0:Nat) (h0:Q.length≤100000) (h1:(fstI Q.length (pkW (hitD a b c) Q)==(-1:Int))=false) (h2:IntKind.i64.wrap (fstI Q.length (pkW (hitD a b c) Q)+1)=((i0+1+0:Nat):Int)) (h3:fstI Q.length (pkW (hitD a b c) Q)=(i0:Int)) (h4:(0:Int)≤((dlW (hitD a b c) Q i0 (Q.length - (i0+1))).2:Int)∧((dlW (hitD a b c) Q i0 (Q.length - (i0+1))).2:Int)≤((dlW (hitD a b c) Q i0 (Q.length - (i0+1))).1.length:Int)∧((dlW (hitD a b c) Q i0 (Q.length - (i0+1))).1.length:Int)≤((dlW (hitD a b c) Q i0 (Q.length - (i0+1))).1.length:Int)) (h5:(0:Int)≤(0:Int)∧(0:Int)≤((dlW (hitD a b c) Q i0 (Q.length - (i0+1))).2:Int)∧((dlW (hitD a b c) Q i0 (Q.length - (i0+1))).2:Int)≤(((dlW (hitD a b c) Q i0 (Q.length - (i0+1))).1.take (dlW (hitD a b c) Q i0 (Q.length - (i0+1))).2++List.replicate ((dlW (hitD a b c) Q i0 (Q.length - (i0+1))).1.length - (dlW (hitD a b c) Q i0 (Q.length - (i0+1))).2) Rw.zero).length:Int)):∃ qs,wayO Id' ([⟨.us (.ext (.flat (.rw 72 [false,false,false] Q))),true⟩,⟨.blk [.v (.int .i64 a),.v (.int .i64 b)],false⟩,⟨.blk [.v (.int .i64 c)],false⟩]:Mem Td).length [⟨.us (.ext (.flat (.rw 72 [false,false,false] ((dlW (hitD a b c) Q i0 (Q.length - (i0+1))).1.take (dlW (hitD a b c) Q i0 (Q.length - (i0+1))).2++List.replicate ((dlW (hitD a b c) Q i0 (Q.length - (i0+1))).1.length - (dlW (hitD a b c) Q i0 (Q.length - (i0+1))).2) Rw.zero)))),true⟩,⟨.blk [.v (.int .i64 a),.v (.int .i64 b)],false⟩,⟨.blk [.v (.int .i64 c)],false⟩] (.c (.one (.sub 0 3 0 (dlW (hitD a b c) Q i0 (Q.length - (i0+1))).2))) ((runFn (⟨Try.prog,[(173,ctrV C_ixD hardD),(108,ctrV C_kD hardD)],[E_of Try.prog 57,E_of Try.prog 72],dkHo,Id'.one,60⟩:Sy Td) [(5,(lpG Id' 42 (hdC (loopsC (bodyOf Try.f151)) 0) 3 [(6,.c (.one (.v (.int .i64 ((i0+1+0:Nat):Int))))),(5,.c (.one (.v (.int .i64 (i0:Int)))))] [(0,.c (.one (.obj 0))),(1,.c (.fn 108 [.ptr 1 0,.ptr 2 0]))] [⟨.us (.ext (.flat (.rw 72 [false,false,false] Q))),true⟩,⟨.blk [.v (.int .i64 a),.v (.int .i64 b)],false⟩,⟨.blk [.v (.int .i64 c)],false⟩] (.leaf (.exit 0) [(5,.c (.one (.v (.int .i64 ((dlW (hitD a b c) Q i0 (Q.length - (i0+1))).2:Int)))))] [⟨.us (.ext (.flat (.rw 72 [false,false,false] (dlW (hitD a b c) Q i0 (Q.length - (i0+1))).1))),true⟩,⟨.blk [.v (.int .i64 a),.v (.int .i64 b)],false⟩,⟨.blk [.v (.int .i64 c)],false⟩])))] Try.f151 [.one (.obj 0),.fn 108 [.ptr 1 0,.ptr 2 0]] [⟨.us (.ext (.flat (.rw 72 [false,false,false] Q))),true⟩,⟨.blk [.v (.int .i64 a),.v (.int .i64 b)],false⟩,⟨.blk [.v (.int .i64 c)],false⟩]).al [false])=some qs∧∀ q∈qs,q:=
 ⟨[Q.length≤(100000:Nat),(fstI Q.length (pkW (hitD a b c) Q)==(-1:Int))=false,(Th.ext (Dk.flat (FL.rw 72 [false,false,false] Q)):Td)=Th.ext (Dk.flat (FL.rw 72 [false,false,false] Q)),Value.int IntKind.i64 a=Value.int IntKind.i64 a,Value.int IntKind.i64 b=Value.int IntKind.i64 b,Value.int IntKind.i64 c=Value.int IntKind.i64 c,Value.int IntKind.i64 (IntKind.i64.wrap (fstI Q.length (pkW (hitD a b c) Q)+(1:Int)))=Value.int IntKind.i64 (↑(i0+(1:Nat)+(0:Nat)):Int),Value.int IntKind.i64 (fstI Q.length (pkW (hitD a b c) Q))=Value.int IntKind.i64 (↑i0:Int),(↑(dlW (hitD a b c) Q i0 (Q.length - (i0+(1:Nat)))).fst.length:Int).toNat=(dlW (hitD a b c) Q i0 (Q.length - (i0+(1:Nat)))).fst.length,(0:Int)≤(↑(dlW (hitD a b c) Q i0 (Q.length - (i0+(1:Nat)))).snd:Int)∧(↑(dlW (hitD a b c) Q i0 (Q.length - (i0+(1:Nat)))).snd:Int)≤(↑(dlW (hitD a b c) Q i0 (Q.length - (i0+(1:Nat)))).fst.length:Int)∧(↑(dlW (hitD a b c) Q i0 (Q.length - (i0+(1:Nat)))).fst.length:Int)≤(↑(dlW (hitD a b c) Q i0 (Q.length - (i0+(1:Nat)))).fst.length:Int),(0:Int)≤(0:Int)∧(0:Int)≤(↑(dlW (hitD a b c) Q i0 (Q.length - (i0+(1:Nat)))).snd:Int)∧(↑(dlW (hitD a b c) Q i0 (Q.length - (i0+(1:Nat)))).snd:Int)≤(↑(List.take (↑(dlW (hitD a b c) Q i0 (Q.length - (i0+(1:Nat)))).snd:Int).toNat (dlW (hitD a b c) Q i0 (Q.length - (i0+(1:Nat)))).fst++List.replicate ((↑(dlW (hitD a b c) Q i0 (Q.length - (i0+(1:Nat)))).fst.length:Int).toNat - (↑(dlW (hitD a b c) Q i0 (Q.length - (i0+(1:Nat)))).snd:Int).toNat) Rw.zero).length:Int),(Th.ext (Dk.flat (FL.rw 72 [false,false,false] ((dlW (hitD a b c) Q i0 (Q.length - (i0+1))).1.take (dlW (hitD a b c) Q i0 (Q.length - (i0+1))).2++List.replicate ((dlW (hitD a b c) Q i0 (Q.length - (i0+1))).1.length - (dlW (hitD a b c) Q i0 (Q.length - (i0+1))).2) Rw.zero))):Td)=Th.ext (Dk.flat (FL.rw 72 [false,false,false] ((dlW (hitD a b c) Q i0 (Q.length - (i0+1))).1.take (dlW (hitD a b c) Q i0 (Q.length - (i0+1))).2++List.replicate ((dlW (hitD a b c) Q i0 (Q.length - (i0+1))).1.length - (dlW (hitD a b c) Q i0 (Q.length - (i0+1))).2) Rw.zero))),Value.int IntKind.i64 a=Value.int IntKind.i64 a,Value.int IntKind.i64 b=Value.int IntKind.i64 b,Value.int IntKind.i64 c=Value.int IntKind.i64 c,(3:Nat)=[false,false,false].length∧(0:Nat)=Int.toNat (0:Int)∧(dlW (hitD a b c) Q i0 (Q.length - (i0+(1:Nat)))).snd=(↑(dlW (hitD a b c) Q i0 (Q.length - (i0+(1:Nat)))).snd:Int).toNat],by kernel_rfl,(by refine mcons ?_ (mcons ?_ (mcons ?_ (mcons ?_ (mcons ?_ (mcons ?_ (mcons ?_ (mcons ?_ (mcons ?_ (mcons ?_ (mcons ?_ (mcons ?_ (mcons ?_ (mcons ?_ (mcons ?_ (mcons ?_ mnil)))))))))))))))<;>first|rfl|exact h0|exact h1|exact h2|exact h3|exact h4|exact h5|trivial|(exact congrArg (Value.int .i64) h2)|(exact congrArg (Value.int .i64) h3)|(exact ⟨rfl,rfl,rfl⟩))⟩
def C_dfD:Ctr Td:=fun us sub=>match us,sub with
 |[.one (.obj 0),.fn f [.ptr 1 0,.ptr 2 0]],[⟨.us (.ext (.flat (.rw t [false,false,false] Q))),true⟩,⟨.blk [.v (.int .i64 a),.v (.int .i64 b)],false⟩,⟨.blk [.v (.int .i64 c)],false⟩]=>(match eqb f 108&&eqb t 72 with
  |true=>some ([Q.length≤100000,Q.map nr3=Q],.c (.one (.obj 3)),[⟨.dead,true⟩,⟨.blk [.v (.int .i64 a),.v (.int .i64 b)],false⟩,⟨.blk [.v (.int .i64 c)],false⟩,⟨.us (.ext (.flat (.rw 72 [false,false,false] (Q.filter fun r=>!hitD a b c r)))),true⟩])
  |false=>none)
 |_,_=>none
theorem C_dfD_ok:CtrOk Try.prog Id' 151 C_dfD:=by
 intro us sub ps x sm h hp w e vs hM ha
 unfold C_dfD at h
 split at h
 ·rename_i f t Q a b c
  split at h
  ·rename_i hb
   rw [Bool.and_eq_true] at hb
   obtain rfl:=eqb_eq.1 hb.1
   obtain rfl:=eqb_eq.1 hb.2
   simp only [Option.some.injEq,Prod.mk.injEq] at h
   obtain ⟨rfl,rfl,rfl⟩:=h
   have hL:Q.length≤100000:=hp _ (List.mem_cons_self ..)
   have hn:Q.map nr3=Q:=hp _ (List.mem_cons_of_mem _ (List.mem_cons_self ..))
   have hend:∀ {e':Env} {v:Value} {w':World} {m:Mem Td} {G:Nat→Prop},MemOk w G Id' w' e' m→m.length=3→(e'++[v])[3]? =some v:=fun hM' hl=>by
    rw [List.getElem?_append_right (by rw [hM'.len];omega),hM'.len,hl];rfl
   rcases fst_cases Q.length (pkW (hitD a b c) Q) with ⟨hv,hall⟩|⟨h1,h2,h3,h4⟩
   ·refine (ctr_way (I:=Id') (fun (W0:World) (G:Nat→Prop)=>SyOk.mk2 Try.mixed dkHo_ok (FnsR.cons (R_ixD) (FnsR.cons (R_kD) (FnsR.nil))) (E_of_ok (by kernel_rfl) (E_of_ok (by kernel_rfl) (EqsOk.nil)))) rfl Try.func151 (by kernel_rfl) (fun W0 G=>LpsOk.nil _) (cs:=[true]) (by kernel_rfl) (dfDA_w0 Q a b c hL (by rw [hv];rfl)) w e vs hM ha).mono fun y w' ⟨v,e',g1,g2,g3,g4⟩=>⟨v,e'++[v],g1,g2.trans (Grows.push e' v),hend g4 rfl,?_⟩
    have g5:=own_front (u:=undef) g4 (i:=0) rfl (own_self g4 (i:=0) rfl g3)
    rw [List.take_of_length_le (Nat.le_refl _)] at g5
    rw [dlW_all hall]
    exact g5
   ·obtain ⟨i0,hi0⟩:∃ i0:Nat,fstI Q.length (pkW (hitD a b c) Q)=(i0:Int):=⟨_,(Int.toNat_of_nonneg h1).symm⟩
    have hi:i0<Q.length:=by rw [hi0] at h2;simpa using h2
    obtain ⟨l1,l2⟩:=dlW_len (hitD a b c) Q i0 (Q.length - (i0+1))
    have hk:=(dlW_inv (hitD a b c) Q i0 hn hi (by rw [hi0] at h3;exact pkW_yes h3) (fun q hq=>by have:=pkW_no (h4 (q:Int) (by omega) (by omega));exact this) (Q.length - (i0+1)) (by omega)).1
    rw [List.take_of_length_le (l:=Q) (by omega)] at hk
    refine (ctr_way (I:=Id') (fun (W0:World) (G:Nat→Prop)=>SyOk.mk2 Try.mixed dkHo_ok (FnsR.cons (R_ixD) (FnsR.cons (R_kD) (FnsR.nil))) (E_of_ok (by kernel_rfl) (E_of_ok (by kernel_rfl) (EqsOk.nil)))) rfl Try.func151 (by kernel_rfl) (fun W0 G=>LpsOk.cons (by kernel_rfl) (dfD_lp Q a b c i0 hL hi _ rfl) (LpsOk.nil _)) (cs:=[false]) (by kernel_rfl) (dfDB_w0 Q a b c i0 hL (beq_eq_false_iff_ne.2 (by omega)) (by rw [hi0,IntWalk.i64_in _ (by omega)];omega) hi0 ⟨by omega,by omega,by omega⟩ ⟨Int.le_refl _,by omega,by rw [List.length_append,List.length_take,List.length_replicate];omega⟩) w e vs hM ha).mono fun y w' ⟨v,e',g1,g2,g3,g4⟩=>⟨v,e'++[v],g1,g2.trans (Grows.push e' v),hend g4 rfl,?_⟩
    have g5:=own_front (u:=undef) g4 (i:=0) rfl g3
    rw [List.take_append_of_le_length (by rw [List.length_take];omega),List.take_take,Nat.min_self,hk] at g5
    exact g5
  ·cases h
 ·cases h
theorem R_dfD:RowOk Try.prog Id' hardD 151 (ctrF Id' C_dfD hardD):=ctrF_ok Try.call151 C_dfD_ok
end Go.Proofs.Ytdenmoiaiemokaa
