/- Z11 Z12. -/
import Derived.Test.YtdenmoiaiemokaaZ10p
set_option linter.unusedVariables false
set_option linter.unusedSimpArgs false
namespace Go.Proofs.Ytdenmoiaiemokaa
open Go.RowKit
set_option maxRecDepth 100000 in
theorem ixp_n (Q:List (Int×List UInt8)) (a:Int) (i i2:Int) (k:Nat) (f:Nat→Value) (h0:decide (i<(Q.length:Int))=true) (h1:IntKind.i64.wrap (i+1)=i2) (h2:0≤i∧i.toNat<Q.length) (h3:pkI Q a (i)=true):∃ qs,alN Id' 2 [(8,.c (.one (.v (.int .i64 i2))))] [⟨.us (.ext (.tab (.wq 37 Q))),true⟩,⟨.blk [.v (.int .i64 a)],false⟩] ((symC (⟨Try.prog,[(97,ctrF Id' C_ncl hardD)],[],dkHo,Id'.one,60⟩:Sy Td) [] 19 (hdC (loopsC (bodyOf Try.f150)) 0) ⟨[(8,.c (.one (.v (.int .i64 i))))]++anyB' (writesC (hdC (loopsC (bodyOf Try.f150)) 0)) ([(0,.c (.one (.obj 0))),(1,.c (.fn 97 [.ptr 1 0])),(7,.c (.one (.v (.int .i64 (Q.length:Int)))))]++tabV f 19),[⟨.us (.ext (.tab (.wq 37 Q))),true⟩,⟨.blk [.v (.int .i64 a)],false⟩],0⟩).al [true,false])=some qs∧∀ q∈qs,q:=
 ⟨[decide (i<(↑Q.length:Int))=true,(0:Int)≤i∧i.toNat<(TB.wq 37 Q).n,((TB.wq 37 Q).int i==a)=false,(Th.ext (Dk.tab (TB.wq 37 Q)):Td)=Th.ext (Dk.tab (TB.wq 37 Q)),Value.int IntKind.i64 a=Value.int IntKind.i64 a,Value.int IntKind.i64 (IntKind.i64.wrap (i+(1:Int)))=Value.int IntKind.i64 i2],by kernel_rfl,(by refine mcons ?_ (mcons ?_ (mcons ?_ (mcons ?_ (mcons ?_ (mcons ?_ mnil)))))<;>first|rfl|exact h0|exact h1|exact h2|exact h3|trivial|(exact congrArg _ h1)|(exact h2)|(exact (congrArg (! ·) h3:_))|(exact pkI_no h3)|(exact pkI_yes h3))⟩
set_option maxRecDepth 100000 in
theorem ixp_x (Q:List (Int×List UInt8)) (a:Int) (i i2:Int) (k:Nat) (f:Nat→Value) (h0:decide (i<(Q.length:Int))=false):∃ qs,alX Id' 2 0 [] [⟨.us (.ext (.tab (.wq 37 Q))),true⟩,⟨.blk [.v (.int .i64 a)],false⟩] ((symC (⟨Try.prog,[(97,ctrF Id' C_ncl hardD)],[],dkHo,Id'.one,60⟩:Sy Td) [] 19 (hdC (loopsC (bodyOf Try.f150)) 0) ⟨[(8,.c (.one (.v (.int .i64 i))))]++anyB' (writesC (hdC (loopsC (bodyOf Try.f150)) 0)) ([(0,.c (.one (.obj 0))),(1,.c (.fn 97 [.ptr 1 0])),(7,.c (.one (.v (.int .i64 (Q.length:Int)))))]++tabV f 19),[⟨.us (.ext (.tab (.wq 37 Q))),true⟩,⟨.blk [.v (.int .i64 a)],false⟩],0⟩).al [false])=some qs∧∀ q∈qs,q:=
 ⟨[decide (i<(↑Q.length:Int))=false,(Th.ext (Dk.tab (TB.wq 37 Q)):Td)=Th.ext (Dk.tab (TB.wq 37 Q)),Value.int IntKind.i64 a=Value.int IntKind.i64 a],by kernel_rfl,(by refine mcons ?_ (mcons ?_ (mcons ?_ mnil))<;>first|rfl|exact h0|trivial|(exact congrArg _ h1)|(exact h2)|(exact (congrArg (! ·) h3:_))|(exact pkI_no h3)|(exact pkI_yes h3))⟩
set_option maxRecDepth 100000 in
theorem ixp_lpA (Q:List (Int×List UInt8)) (a:Int) (hL:Q.length≤100000)  (hall:∀ i:Int,0≤i→i.toNat<Q.length→pkI Q a (i)=true) {W0:World} {G:Nat→Prop} (S0:Sy Td) (hS0:S0.P=Try.prog):LoopSound S0 Id' W0 G 19 (hdC (loopsC (bodyOf Try.f150)) 0) (lpG Id' 19 (hdC (loopsC (bodyOf Try.f150)) 0) 2 [(8,.c (.one (.v (.int .i64 ((0+0:Nat):Int)))))] [(0,.c (.one (.obj 0))),(1,.c (.fn 97 [.ptr 1 0])),(7,.c (.one (.v (.int .i64 (Q.length:Int)))))] [⟨.us (.ext (.tab (.wq 37 Q))),true⟩,⟨.blk [.v (.int .i64 a)],false⟩] (.leaf (.exit 0) [] [⟨.us (.ext (.tab (.wq 37 Q))),true⟩,⟨.blk [.v (.int .i64 a)],false⟩])):=by
 refine lp_sound (V:=fun k=>[(8,.c (.one (.v (.int .i64 ((k+0:Nat):Int)))))]) (M:=(fun k=>[⟨.us (.ext (.tab (.wq 37 Q))),true⟩,⟨.blk [.v (.int .i64 a)],false⟩]:Nat→Mem Td)) (N:=Q.length) (Ux:=fun k x=>match x with|.exit 0=>some ([],([⟨.us (.ext (.tab (.wq 37 Q))),true⟩,⟨.blk [.v (.int .i64 a)],false⟩]:Mem Td))|_=>none) (X:=fun _ _=>True) (J:=fun k=>True) (fun k=>by kernel_rfl) trivial (fun k hk hJ f=>?_) (fun K hK k x U hk hU hX=>?_)
 ·rw [hS0]
  cases hT:decide (((k+0:Nat):Int)<(Q.length:Int)) with
  |false=>
   exact rnd_xD (⟨Try.prog,[(97,ctrF Id' C_ncl hardD)],[],dkHo,Id'.one,60⟩:Sy Td) rfl ((fun (W0:World) (G:Nat→Prop)=>SyOk.mk2 Try.mixed dkHo_ok (FnsR.cons (R_ncl) (FnsR.nil)) EqsOk.nil) W0 G) (ixp_x Q a ((k+0:Nat):Int) ((k+1+0:Nat):Int) k f hT) rfl trivial
  |true=>
   have hk1:=of_decide_eq_true hT
   have hW:IntKind.i64.wrap (((k+0:Nat):Int)+1)=((k+1+0:Nat):Int):=by rw [IntWalk.i64_in _ (by omega)];omega
   exact rnd_nD (⟨Try.prog,[(97,ctrF Id' C_ncl hardD)],[],dkHo,Id'.one,60⟩:Sy Td) rfl ((fun (W0:World) (G:Nat→Prop)=>SyOk.mk2 Try.mixed dkHo_ok (FnsR.cons (R_ncl) (FnsR.nil)) EqsOk.nil) W0 G) (ixp_n Q a ((k+0:Nat):Int) ((k+1+0:Nat):Int) k f hT hW (by omega) (hall _ (by omega) (by omega)) ) rfl rfl (by omega) trivial
 ·revert hU
  match x with
  |.exit 0=>intro hU;simp only [Option.some.injEq] at hU;subst hU;exact hK
  |.normal=>intro hU;cases hU
  |.ret=>intro hU;cases hU
  |.exit (n+1)=>intro hU;cases hU
set_option maxRecDepth 100000 in
theorem ixp_r (Q:List (Int×List UInt8)) (a:Int) (i i2:Int) (k:Nat) (f:Nat→Value) (h0:decide (i<(Q.length:Int))=true) (h1:i=i2) (h2:0≤i∧i.toNat<Q.length) (h3:pkI Q a (i)=false):∃ qs,alR Id' 2 [(4,.c (.one (.v (.int .i64 i2))))] [⟨.us (.ext (.tab (.wq 37 Q))),true⟩,⟨.blk [.v (.int .i64 a)],false⟩] ((symC (⟨Try.prog,[(97,ctrF Id' C_ncl hardD)],[],dkHo,Id'.one,60⟩:Sy Td) [] 19 (hdC (loopsC (bodyOf Try.f150)) 0) ⟨[(8,.c (.one (.v (.int .i64 i))))]++anyB' (writesC (hdC (loopsC (bodyOf Try.f150)) 0)) ([(0,.c (.one (.obj 0))),(1,.c (.fn 97 [.ptr 1 0])),(7,.c (.one (.v (.int .i64 (Q.length:Int)))))]++tabV f 19),[⟨.us (.ext (.tab (.wq 37 Q))),true⟩,⟨.blk [.v (.int .i64 a)],false⟩],0⟩).al [true,true])=some qs∧∀ q∈qs,q:=
 ⟨[decide (i<(↑Q.length:Int))=true,(0:Int)≤i∧i.toNat<(TB.wq 37 Q).n,((TB.wq 37 Q).int i==a)=true,(Th.ext (Dk.tab (TB.wq 37 Q)):Td)=Th.ext (Dk.tab (TB.wq 37 Q)),Value.int IntKind.i64 a=Value.int IntKind.i64 a,Value.int IntKind.i64 i=Value.int IntKind.i64 i2],by kernel_rfl,(by refine mcons ?_ (mcons ?_ (mcons ?_ (mcons ?_ (mcons ?_ (mcons ?_ mnil)))))<;>first|rfl|exact h0|exact h1|exact h2|exact h3|trivial|(exact congrArg _ h1)|(exact h2)|(exact (congrArg (! ·) h3:_))|(exact pkI_no h3)|(exact pkI_yes h3))⟩
set_option maxRecDepth 100000 in
theorem ixp_lpR (Q:List (Int×List UInt8)) (a:Int) (e:Int) (hL:Q.length≤100000)  (he0:0≤e∧e.toNat<Q.length) (he1:pkI Q a (e)=false) (he2:∀ i:Int,0≤i→i<e→pkI Q a (i)=true) {W0:World} {G:Nat→Prop} (S0:Sy Td) (hS0:S0.P=Try.prog):LoopSound S0 Id' W0 G 19 (hdC (loopsC (bodyOf Try.f150)) 0) (lpG Id' 19 (hdC (loopsC (bodyOf Try.f150)) 0) 2 [(8,.c (.one (.v (.int .i64 ((0+0:Nat):Int)))))] [(0,.c (.one (.obj 0))),(1,.c (.fn 97 [.ptr 1 0])),(7,.c (.one (.v (.int .i64 (Q.length:Int)))))] [⟨.us (.ext (.tab (.wq 37 Q))),true⟩,⟨.blk [.v (.int .i64 a)],false⟩] (.leaf .ret [(4,.c (.one (.v (.int .i64 e))))] [⟨.us (.ext (.tab (.wq 37 Q))),true⟩,⟨.blk [.v (.int .i64 a)],false⟩])):=by
 refine lp_sound (V:=fun k=>[(8,.c (.one (.v (.int .i64 ((k+0:Nat):Int)))))]) (M:=(fun k=>[⟨.us (.ext (.tab (.wq 37 Q))),true⟩,⟨.blk [.v (.int .i64 a)],false⟩]:Nat→Mem Td)) (N:=Q.length) (Ux:=fun k x=>match x with|.ret=>some ([(4,.c (.one (.v (.int .i64 e))))],([⟨.us (.ext (.tab (.wq 37 Q))),true⟩,⟨.blk [.v (.int .i64 a)],false⟩]:Mem Td))|_=>none) (X:=fun _ _=>True) (J:=fun k=>((k+0:Nat):Int)≤e) (fun k=>by kernel_rfl) (by omega) (fun k hk hJ f=>?_) (fun K hK k x U hk hU hX=>?_)
 ·rw [hS0]
  cases hT:decide (((k+0:Nat):Int)<(Q.length:Int)) with
  |false=>
   have:=of_decide_eq_false hT
   omega
  |true=>
   have hk1:=of_decide_eq_true hT
   have hW:IntKind.i64.wrap (((k+0:Nat):Int)+1)=((k+1+0:Nat):Int):=by rw [IntWalk.i64_in _ (by omega)];omega
   cases hq:pkI Q a (((k+0:Nat):Int)) with
   |true=>
    exact rnd_nD (⟨Try.prog,[(97,ctrF Id' C_ncl hardD)],[],dkHo,Id'.one,60⟩:Sy Td) rfl ((fun (W0:World) (G:Nat→Prop)=>SyOk.mk2 Try.mixed dkHo_ok (FnsR.cons (R_ncl) (FnsR.nil)) EqsOk.nil) W0 G) (ixp_n Q a ((k+0:Nat):Int) ((k+1+0:Nat):Int) k f hT hW (by omega) hq ) rfl rfl (by omega) (by
     rcases Int.lt_or_eq_of_le hJ with h|h
     ·omega
     ·rw [h,he1] at hq;cases hq)
   |false=>
    have hie:((k+0:Nat):Int)=e:=by
     rcases Int.lt_or_eq_of_le hJ with h|h
     ·rw [he2 _ (by omega) h] at hq;cases hq
     ·exact h
    exact rnd_rD (⟨Try.prog,[(97,ctrF Id' C_ncl hardD)],[],dkHo,Id'.one,60⟩:Sy Td) rfl ((fun (W0:World) (G:Nat→Prop)=>SyOk.mk2 Try.mixed dkHo_ok (FnsR.cons (R_ncl) (FnsR.nil)) EqsOk.nil) W0 G) (ixp_r Q a ((k+0:Nat):Int) e k f hT hie (by omega) hq ) rfl trivial
 ·revert hU
  match x with
  |.ret=>intro hU;simp only [Option.some.injEq] at hU;subst hU;exact hK
  |.normal=>intro hU;cases hU
  |.exit n=>intro hU;cases hU
set_option maxRecDepth 100000 in
theorem ixpA_w0 (Q:List (Int×List UInt8)) (a:Int) :∃ qs,wayO Id' ([⟨.us (.ext (.tab (.wq 37 Q))),true⟩,⟨.blk [.v (.int .i64 a)],false⟩]:Mem Td).length [⟨.us (.ext (.tab (.wq 37 Q))),true⟩,⟨.blk [.v (.int .i64 a)],false⟩] (.c (.one (.v (.int .i64 (-1))))) ((runFn (⟨Try.prog,[(97,ctrF Id' C_ncl hardD)],[],dkHo,Id'.one,60⟩:Sy Td) [(2,(lpG Id' 19 (hdC (loopsC (bodyOf Try.f150)) 0) 2 [(8,.c (.one (.v (.int .i64 ((0+0:Nat):Int)))))] [(0,.c (.one (.obj 0))),(1,.c (.fn 97 [.ptr 1 0])),(7,.c (.one (.v (.int .i64 (Q.length:Int)))))] [⟨.us (.ext (.tab (.wq 37 Q))),true⟩,⟨.blk [.v (.int .i64 a)],false⟩] (.leaf (.exit 0) [] [⟨.us (.ext (.tab (.wq 37 Q))),true⟩,⟨.blk [.v (.int .i64 a)],false⟩])))] Try.f150 [.one (.obj 0),.fn 97 [.ptr 1 0]] [⟨.us (.ext (.tab (.wq 37 Q))),true⟩,⟨.blk [.v (.int .i64 a)],false⟩]).al [])=some qs∧∀ q∈qs,q:=
 ⟨[Value.int IntKind.i64 (↑(TB.wq 37 Q).n:Int)=Value.int IntKind.i64 (↑Q.length:Int),(Th.ext (Dk.tab (TB.wq 37 Q)):Td)=Th.ext (Dk.tab (TB.wq 37 Q)),Value.int IntKind.i64 a=Value.int IntKind.i64 a,Value.int IntKind.i64 (Int.ofNat 0)=Value.int IntKind.i64 (Int.ofNat ((0:Nat)+(0:Nat))),(Th.ext (Dk.tab (TB.wq 37 Q)):Td)=Th.ext (Dk.tab (TB.wq 37 Q)),Value.int IntKind.i64 a=Value.int IntKind.i64 a,Value.int IntKind.i64 (Int.negSucc 0)=Value.int IntKind.i64 (Int.negSucc 0)],by kernel_rfl,(by refine mcons ?_ (mcons ?_ (mcons ?_ (mcons ?_ (mcons ?_ (mcons ?_ (mcons ?_ mnil))))))<;>first|rfl|trivial)⟩
set_option maxRecDepth 100000 in
theorem ixpR_w0 (Q:List (Int×List UInt8)) (a:Int) (e:Int) :∃ qs,wayO Id' ([⟨.us (.ext (.tab (.wq 37 Q))),true⟩,⟨.blk [.v (.int .i64 a)],false⟩]:Mem Td).length [⟨.us (.ext (.tab (.wq 37 Q))),true⟩,⟨.blk [.v (.int .i64 a)],false⟩] (.c (.one (.v (.int .i64 e)))) ((runFn (⟨Try.prog,[(97,ctrF Id' C_ncl hardD)],[],dkHo,Id'.one,60⟩:Sy Td) [(2,(lpG Id' 19 (hdC (loopsC (bodyOf Try.f150)) 0) 2 [(8,.c (.one (.v (.int .i64 ((0+0:Nat):Int)))))] [(0,.c (.one (.obj 0))),(1,.c (.fn 97 [.ptr 1 0])),(7,.c (.one (.v (.int .i64 (Q.length:Int)))))] [⟨.us (.ext (.tab (.wq 37 Q))),true⟩,⟨.blk [.v (.int .i64 a)],false⟩] (.leaf .ret [(4,.c (.one (.v (.int .i64 e))))] [⟨.us (.ext (.tab (.wq 37 Q))),true⟩,⟨.blk [.v (.int .i64 a)],false⟩])))] Try.f150 [.one (.obj 0),.fn 97 [.ptr 1 0]] [⟨.us (.ext (.tab (.wq 37 Q))),true⟩,⟨.blk [.v (.int .i64 a)],false⟩]).al [])=some qs∧∀ q∈qs,q:=
 ⟨[Value.int IntKind.i64 (↑(TB.wq 37 Q).n:Int)=Value.int IntKind.i64 (↑Q.length:Int),(Th.ext (Dk.tab (TB.wq 37 Q)):Td)=Th.ext (Dk.tab (TB.wq 37 Q)),Value.int IntKind.i64 a=Value.int IntKind.i64 a,Value.int IntKind.i64 (Int.ofNat 0)=Value.int IntKind.i64 (Int.ofNat ((0:Nat)+(0:Nat))),(Th.ext (Dk.tab (TB.wq 37 Q)):Td)=Th.ext (Dk.tab (TB.wq 37 Q)),Value.int IntKind.i64 a=Value.int IntKind.i64 a,Value.int IntKind.i64 e=Value.int IntKind.i64 e],by kernel_rfl,(by refine mcons ?_ (mcons ?_ (mcons ?_ (mcons ?_ (mcons ?_ (mcons ?_ (mcons ?_ mnil))))))<;>first|rfl|trivial)⟩
def C_ixp:Ctr Td:=fun us sub=>match us,sub with
 |[.one (.obj 0),.fn 97 [.ptr 1 0]],[⟨.us (.ext (.tab (.wq 37 Q))),true⟩,⟨.blk [.v (.int .i64 a)],false⟩]=>some ([Q.length≤100000],.c (.one (.v (.int .i64 (fstI Q.length (pkI Q a))))),[⟨.us (.ext (.tab (.wq 37 Q))),true⟩,⟨.blk [.v (.int .i64 a)],false⟩])
 |_,_=>none
set_option maxRecDepth 100000 in
theorem C_ixp_ok:CtrOk Try.prog Id' 150 C_ixp:=by
 intro us sub ps x sm h hp w e vs hM ha
 unfold C_ixp at h
 split at h
 ·rename_i Q a
  simp only [Option.some.injEq,Prod.mk.injEq] at h
  obtain ⟨rfl,rfl,rfl⟩:=h
  have hL:Q.length≤100000:=hp _ (List.mem_cons_self ..)
  rcases fst_cases Q.length (pkI Q a) with ⟨hv,hall⟩|⟨h1,h2,h3,h4⟩
  ·rw [hv]
   exact ctr_way (I:=Id') (fun (W0:World) (G:Nat→Prop)=>SyOk.mk2 Try.mixed dkHo_ok (FnsR.cons (R_ncl) (FnsR.nil)) EqsOk.nil) rfl Try.func150 (by kernel_rfl) (fun W0 G=>LpsOk.cons (by kernel_rfl) (ixp_lpA Q a hL hall _ rfl) (LpsOk.nil _)) (cs:=[]) (by kernel_rfl) (ixpA_w0 Q a ) w e vs hM ha
  ·exact ctr_way (I:=Id') (fun (W0:World) (G:Nat→Prop)=>SyOk.mk2 Try.mixed dkHo_ok (FnsR.cons (R_ncl) (FnsR.nil)) EqsOk.nil) rfl Try.func150 (by kernel_rfl) (fun W0 G=>LpsOk.cons (by kernel_rfl) (ixp_lpR Q a _ hL ⟨h1,h2⟩ h3 h4 _ rfl) (LpsOk.nil _)) (cs:=[]) (by kernel_rfl) (ixpR_w0 Q a _ ) w e vs hM ha
 ·cases h
theorem R_ixp:RowOk Try.prog Id' hardD 150 (ctrF Id' C_ixp hardD):=ctrF_ok Try.call150 C_ixp_ok
end Go.Proofs.Ytdenmoiaiemokaa
set_option linter.unusedVariables false
set_option linter.unusedSimpArgs false
namespace Go.Proofs.Ytdenmoiaiemokaa
open Go.RowKit
set_option maxRecDepth 100000 in
theorem dlp_n1 (X Y:List (Int×List UInt8)) (a:Int) (i i2 j j2:Int) (k:Nat) (f:Nat→Value) (h0:decide (j<(X.length:Int))=true) (h1:0≤j∧j.toNat<X.length) (h2:(!((X.getD j.toNat (0,[])).1==a))=true) (h3:0≤i∧i.toNat<X.length) (h4:X.set i.toNat ((X.getD j.toNat (0,[])).1,(X.getD j.toNat (0,[])).2)=Y) (h5:IntKind.i64.wrap (j+1)=j2) (h6:IntKind.i64.wrap (i+1)=i2):∃ qs,alN Id' 2 [(6,.c (.one (.v (.int .i64 j2)))),(5,.c (.one (.v (.int .i64 i2))))] [⟨.us (.ext (.tab (.wq 37 Y))),true⟩,⟨.blk [.v (.int .i64 a)],false⟩] ((symC (⟨Try.prog,[(97,ctrF Id' C_ncl hardD)],[],dkHo,Id'.one,60⟩:Sy Td) [] 42 (hdC (loopsC (bodyOf Try.f96)) 0) ⟨[(6,.c (.one (.v (.int .i64 j)))),(5,.c (.one (.v (.int .i64 i))))]++anyB' (writesC (hdC (loopsC (bodyOf Try.f96)) 0)) ([(0,.c (.one (.obj 0))),(1,.c (.fn 97 [.ptr 1 0]))]++tabV f 42),[⟨.us (.ext (.tab (.wq 37 X))),true⟩,⟨.blk [.v (.int .i64 a)],false⟩],0⟩).al [true,true])=some qs∧∀ q∈qs,q:=
 ⟨[decide (j<(↑(TB.wq 37 X).n:Int))=true,(0:Int)≤j∧j.toNat<(TB.wq 37 X).n,(!(TB.wq 37 X).int j==a)=true,(0:Int)≤i∧i.toNat<(TB.wq 37 X).n,(Th.ext (Dk.tab (TB.wq 37 (X.set i.toNat ((X.getD j.toNat (0,[])).1,(X.getD j.toNat (0,[])).2)))):Td)=Th.ext (Dk.tab (TB.wq 37 Y)),Value.int IntKind.i64 a=Value.int IntKind.i64 a,Value.int IntKind.i64 (IntKind.i64.wrap (j+(1:Int)))=Value.int IntKind.i64 j2,Value.int IntKind.i64 (IntKind.i64.wrap (i+(1:Int)))=Value.int IntKind.i64 i2],by kernel_rfl,(by refine mcons ?_ (mcons ?_ (mcons ?_ (mcons ?_ (mcons ?_ (mcons ?_ (mcons ?_ (mcons ?_ mnil)))))))<;>first|rfl|exact h0|exact h1|exact h2|exact h3|exact h4|exact h5|exact h6|trivial|(exact congrArg (fun x=>(Th.ext (Dk.tab (TB.wq 37 x)):Td)) h4)|(exact congrArg (Value.int .i64) h5)|(exact congrArg (Value.int .i64) h6))⟩
set_option maxRecDepth 100000 in
theorem dlp_n0 (X:List (Int×List UInt8)) (a:Int) (i j j2:Int) (k:Nat) (f:Nat→Value) (h0:decide (j<(X.length:Int))=true) (h1:0≤j∧j.toNat<X.length) (h2:(!((X.getD j.toNat (0,[])).1==a))=false) (h3:IntKind.i64.wrap (j+1)=j2):∃ qs,alN Id' 2 [(6,.c (.one (.v (.int .i64 j2)))),(5,.c (.one (.v (.int .i64 i))))] [⟨.us (.ext (.tab (.wq 37 X))),true⟩,⟨.blk [.v (.int .i64 a)],false⟩] ((symC (⟨Try.prog,[(97,ctrF Id' C_ncl hardD)],[],dkHo,Id'.one,60⟩:Sy Td) [] 42 (hdC (loopsC (bodyOf Try.f96)) 0) ⟨[(6,.c (.one (.v (.int .i64 j)))),(5,.c (.one (.v (.int .i64 i))))]++anyB' (writesC (hdC (loopsC (bodyOf Try.f96)) 0)) ([(0,.c (.one (.obj 0))),(1,.c (.fn 97 [.ptr 1 0]))]++tabV f 42),[⟨.us (.ext (.tab (.wq 37 X))),true⟩,⟨.blk [.v (.int .i64 a)],false⟩],0⟩).al [true,false])=some qs∧∀ q∈qs,q:=
 ⟨[decide (j<(↑(TB.wq 37 X).n:Int))=true,(0:Int)≤j∧j.toNat<(TB.wq 37 X).n,(!(TB.wq 37 X).int j==a)=false,(Th.ext (Dk.tab (TB.wq 37 X)):Td)=Th.ext (Dk.tab (TB.wq 37 X)),Value.int IntKind.i64 a=Value.int IntKind.i64 a,Value.int IntKind.i64 (IntKind.i64.wrap (j+(1:Int)))=Value.int IntKind.i64 j2,Value.int IntKind.i64 i=Value.int IntKind.i64 i],by kernel_rfl,(by refine mcons ?_ (mcons ?_ (mcons ?_ (mcons ?_ (mcons ?_ (mcons ?_ (mcons ?_ mnil))))))<;>first|rfl|exact h0|exact h1|exact h2|exact h3|trivial|(exact congrArg (Value.int .i64) h3))⟩
set_option maxRecDepth 100000 in
theorem dlp_x (X:List (Int×List UInt8)) (a:Int) (i j:Int) (k:Nat) (f:Nat→Value) (h0:decide (j<(X.length:Int))=false):∃ qs,alX Id' 2 0 [(5,.c (.one (.v (.int .i64 i))))] [⟨.us (.ext (.tab (.wq 37 X))),true⟩,⟨.blk [.v (.int .i64 a)],false⟩] ((symC (⟨Try.prog,[(97,ctrF Id' C_ncl hardD)],[],dkHo,Id'.one,60⟩:Sy Td) [] 42 (hdC (loopsC (bodyOf Try.f96)) 0) ⟨[(6,.c (.one (.v (.int .i64 j)))),(5,.c (.one (.v (.int .i64 i))))]++anyB' (writesC (hdC (loopsC (bodyOf Try.f96)) 0)) ([(0,.c (.one (.obj 0))),(1,.c (.fn 97 [.ptr 1 0]))]++tabV f 42),[⟨.us (.ext (.tab (.wq 37 X))),true⟩,⟨.blk [.v (.int .i64 a)],false⟩],0⟩).al [false])=some qs∧∀ q∈qs,q:=
 ⟨[decide (j<(↑(TB.wq 37 X).n:Int))=false,(Th.ext (Dk.tab (TB.wq 37 X)):Td)=Th.ext (Dk.tab (TB.wq 37 X)),Value.int IntKind.i64 a=Value.int IntKind.i64 a,Value.int IntKind.i64 i=Value.int IntKind.i64 i],by kernel_rfl,(by refine mcons ?_ (mcons ?_ (mcons ?_ (mcons ?_ mnil)))<;>first|rfl|exact h0|trivial)⟩
def keepP (a:Int) (q:Int×List UInt8):Bool:=!(q.1==a)
def dlS (a:Int) (Q:List (Int×List UInt8)) (i0:Nat):Nat→List (Int×List UInt8)×Nat
 |0=>(Q,i0)
 |k+1=>bif keepP a ((dlS a Q i0 k).1.getD (i0+1+k) (0,[])) then ((dlS a Q i0 k).1.set (dlS a Q i0 k).2 ((dlS a Q i0 k).1.getD (i0+1+k) (0,[])),(dlS a Q i0 k).2+1) else dlS a Q i0 k
theorem dlS_len (a:Int) (Q:List (Int×List UInt8)) (i0:Nat):∀ k,(dlS a Q i0 k).1.length=Q.length∧(dlS a Q i0 k).2≤i0+k
 |0=>⟨rfl,Nat.le_refl _⟩
 |k+1=>by
  obtain ⟨h1,h2⟩:=dlS_len a Q i0 k
  unfold dlS
  cases keepP a ((dlS a Q i0 k).1.getD (i0+1+k) (0,[])) with
  |true=>exact ⟨by simp only [cond_true,List.length_set];exact h1,by simp only [cond_true];omega⟩
  |false=>exact ⟨by simp only [cond_false];exact h1,by simp only [cond_false];omega⟩
set_option maxRecDepth 100000 in
theorem dlp_lp (Q:List (Int×List UInt8)) (a:Int) (i0:Nat) (hR:Q.length≤100000) (hi:i0<Q.length) {W0:World} {G:Nat→Prop} (S0:Sy Td) (hS0:S0.P=Try.prog):LoopSound S0 Id' W0 G 42 (hdC (loopsC (bodyOf Try.f96)) 0) (lpG Id' 42 (hdC (loopsC (bodyOf Try.f96)) 0) 2 [(6,.c (.one (.v (.int .i64 ((i0+1+0:Nat):Int))))),(5,.c (.one (.v (.int .i64 (i0:Int)))))] [(0,.c (.one (.obj 0))),(1,.c (.fn 97 [.ptr 1 0]))] [⟨.us (.ext (.tab (.wq 37 Q))),true⟩,⟨.blk [.v (.int .i64 a)],false⟩] (.leaf (.exit 0) [(5,.c (.one (.v (.int .i64 ((dlS a Q i0 (Q.length - (i0+1))).2:Int)))))] [⟨.us (.ext (.tab (.wq 37 (dlS a Q i0 (Q.length - (i0+1))).1))),true⟩,⟨.blk [.v (.int .i64 a)],false⟩])):=by
 refine lp_sound (V:=fun k=>[(6,.c (.one (.v (.int .i64 ((i0+1+k:Nat):Int))))),(5,.c (.one (.v (.int .i64 ((dlS a Q i0 k).2:Int)))))]) (M:=(fun k=>[⟨.us (.ext (.tab (.wq 37 (dlS a Q i0 k).1))),true⟩,⟨.blk [.v (.int .i64 a)],false⟩]:Nat→Mem Td)) (N:=Q.length - (i0+1)) (Ux:=fun k x=>match x with|.exit 0=>some ([(5,.c (.one (.v (.int .i64 ((dlS a Q i0 (Q.length - (i0+1))).2:Int)))))],([⟨.us (.ext (.tab (.wq 37 (dlS a Q i0 (Q.length - (i0+1))).1))),true⟩,⟨.blk [.v (.int .i64 a)],false⟩]:Mem Td))|_=>none) (X:=fun _ _=>True) (J:=fun k=>k≤Q.length - (i0+1)) (fun k=>by kernel_rfl) (Nat.zero_le _) (fun k hk hJ f=>?_) (fun K hK k x U hk hU hX=>?_)
 ·rw [hS0]
  obtain ⟨hl1,hl2⟩:=dlS_len a Q i0 k
  cases hT:decide (((i0+1+k:Nat):Int)<((dlS a Q i0 k).1.length:Int)) with
  |false=>
   have hke:k=Q.length - (i0+1):=by have:=of_decide_eq_false hT;omega
   subst hke
   exact rnd_xD (⟨Try.prog,[(97,ctrF Id' C_ncl hardD)],[],dkHo,Id'.one,60⟩:Sy Td) rfl ((fun (W0:World) (G:Nat→Prop)=>SyOk.mk2 Try.mixed dkHo_ok (FnsR.cons (R_ncl) (FnsR.nil)) EqsOk.nil) W0 G) (dlp_x (dlS a Q i0 (Q.length - (i0+1))).1 a _ _ (Q.length - (i0+1)) f hT) rfl trivial
  |true=>
   have hk1:=of_decide_eq_true hT
   have hW:IntKind.i64.wrap (((i0+1+k:Nat):Int)+1)=((i0+1+(k+1):Nat):Int):=by rw [IntWalk.i64_in _ (by omega)];omega
   cases hq:(!(((dlS a Q i0 k).1.getD (((i0+1+k:Nat):Int)).toNat (0,[])).1==a)) with
   |true=>
    have hq2:keepP a ((dlS a Q i0 k).1.getD (i0+1+k) (0,[]))=true:=hq
    have hst:dlS a Q i0 (k+1)=((dlS a Q i0 k).1.set (dlS a Q i0 k).2 ((dlS a Q i0 k).1.getD (i0+1+k) (0,[])),(dlS a Q i0 k).2+1):=by rw [dlS,hq2];rfl
    have hW2:IntKind.i64.wrap (((dlS a Q i0 k).2:Int)+1)=((dlS a Q i0 (k+1)).2:Int):=by rw [hst,IntWalk.i64_in _ (by omega)];show _=(((dlS a Q i0 k).2+1:Nat):Int);omega
    exact rnd_nD (⟨Try.prog,[(97,ctrF Id' C_ncl hardD)],[],dkHo,Id'.one,60⟩:Sy Td) rfl ((fun (W0:World) (G:Nat→Prop)=>SyOk.mk2 Try.mixed dkHo_ok (FnsR.cons (R_ncl) (FnsR.nil)) EqsOk.nil) W0 G) (dlp_n1 (dlS a Q i0 k).1 (dlS a Q i0 (k+1)).1 a _ _ _ _ k f hT ⟨by omega,by omega⟩ hq ⟨by omega,by omega⟩ (by rw [hst];rfl) hW hW2) rfl rfl (by omega) (by omega)
   |false=>
    have hq2:keepP a ((dlS a Q i0 k).1.getD (i0+1+k) (0,[]))=false:=hq
    have hst:dlS a Q i0 (k+1)=(dlS a Q i0 k):=by rw [dlS,hq2];rfl
    have hn:=dlp_n0 (dlS a Q i0 k).1 a ((dlS a Q i0 k).2:Int) _ _ k f hT ⟨by omega,by omega⟩ hq hW
    refine rnd_nD (⟨Try.prog,[(97,ctrF Id' C_ncl hardD)],[],dkHo,Id'.one,60⟩:Sy Td) rfl ((fun (W0:World) (G:Nat→Prop)=>SyOk.mk2 Try.mixed dkHo_ok (FnsR.cons (R_ncl) (FnsR.nil)) EqsOk.nil) W0 G) (by rw [hst];exact hn) rfl rfl (by omega) (by omega)
 ·revert hU
  match x with
  |.exit 0=>intro hU;simp only [Option.some.injEq] at hU;subst hU;exact hK
  |.normal=>intro hU;cases hU
  |.ret=>intro hU;cases hU
  |.exit (n+1)=>intro hU;cases hU
end Go.Proofs.Ytdenmoiaiemokaa
