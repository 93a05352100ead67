/- W59 W60 W61 W62 W63 W64 W38. -/
import Derived.Test.YtdenmoiaiemokaaW58p
import Derived.Test.YtdenmoiaiemokaaW5p
import Derived.Laws.OwnMore
import Derived.Lib.SliceRun
set_option linter.unusedVariables false
set_option linter.unusedSimpArgs false
namespace Go.Proofs.Ytdenmoiaiemokaa
open Go.RowKit
set_option maxRecDepth 100000 in
theorem del_n1 (X Y:List Rw) (s:ByteArray) (i i2 j j2:Int) (k:Nat) (f:Nat→Value) (h0:decide (j<(X.length:Int))=true) (h1:0≤j∧j.toNat<X.length) (h2:(!(((X.getD j.toNat Rw.zero).ss.getD 0 ⟨#[]⟩).toList==s.toList))=true) (h3:0≤i∧i.toNat<X.length) (h4:X.set i.toNat (nrm4 (X.getD j.toNat Rw.zero))=Y) (h5:IntKind.i64.wrap (j+1)=j2) (h6:IntKind.i64.wrap (i+1)=i2):∃ qs,alN Id' 2 [(6,.c (.one (.v (.int .i64 j2)))),(5,.c (.one (.v (.int .i64 i2))))] [⟨.us (.ext (.flat (.rw 109 [true,false,false,false] Y))),true⟩,⟨.blk [.v (.string s)],false⟩] ((symC (⟨Try.prog,[(135,ctrF Id' C_dcl hardD)],[],dkHo,Id'.one,60⟩:Sy Td) [] 42 (hdC (loopsC (bodyOf Try.f133)) 0) ⟨[(6,.c (.one (.v (.int .i64 j)))),(5,.c (.one (.v (.int .i64 i))))]++anyB' (writesC (hdC (loopsC (bodyOf Try.f133)) 0)) ([(0,.c (.one (.obj 0))),(1,.c (.fn 135 [.ptr 1 0]))]++tabV f 42),[⟨.us (.ext (.flat (.rw 109 [true,false,false,false] X))),true⟩,⟨.blk [.v (.string s)],false⟩],0⟩).al [true,true])=some qs∧∀ q∈qs,q:=
 ⟨[decide (j<(↑(FL.rw (109:TypeId) [true,false,false,false] X).n:Int))=true,(0:Int)≤j∧j.toNat<(FL.rw (109:TypeId) [true,false,false,false] X).n,(!((X.getD j.toNat Rw.zero).ss.getD (0:Nat) (ByteArray.mk #[])).toList==s.toList)=true,(0:Int)≤i∧i.toNat<(FL.rw (109:TypeId) [true,false,false,false] X).n,(Th.ext (Dk.flat (FL.rw 109 [true,false,false,false] (X.set i.toNat (nrm4 (X.getD j.toNat Rw.zero))))):Td)=Th.ext (Dk.flat (FL.rw 109 [true,false,false,false] Y)),Value.string s=Value.string s,Value.int IntKind.i64 (IntKind.i64.wrap (j+(1:Int)))=Value.int IntKind.i64 j2,Value.int IntKind.i64 (IntKind.i64.wrap (i+(1:Int)))=Value.int IntKind.i64 i2],by kernel_rfl,(by refine mcons ?_ (mcons ?_ (mcons ?_ (mcons ?_ (mcons ?_ (mcons ?_ (mcons ?_ (mcons ?_ mnil)))))))<;>first|rfl|exact h0|exact h1|exact h2|exact h3|exact h4|exact h5|exact h6|trivial|(exact congrArg (fun x=>(Th.ext (Dk.flat (FL.rw 109 [true,false,false,false] x)):Td)) h4)|(exact congrArg (Value.int .i64) h5)|(exact congrArg (Value.int .i64) h6))⟩
set_option maxRecDepth 100000 in
theorem del_n0 (X:List Rw) (s:ByteArray) (i j j2:Int) (k:Nat) (f:Nat→Value) (h0:decide (j<(X.length:Int))=true) (h1:0≤j∧j.toNat<X.length) (h2:(!(((X.getD j.toNat Rw.zero).ss.getD 0 ⟨#[]⟩).toList==s.toList))=false) (h3:IntKind.i64.wrap (j+1)=j2):∃ qs,alN Id' 2 [(6,.c (.one (.v (.int .i64 j2)))),(5,.c (.one (.v (.int .i64 i))))] [⟨.us (.ext (.flat (.rw 109 [true,false,false,false] X))),true⟩,⟨.blk [.v (.string s)],false⟩] ((symC (⟨Try.prog,[(135,ctrF Id' C_dcl hardD)],[],dkHo,Id'.one,60⟩:Sy Td) [] 42 (hdC (loopsC (bodyOf Try.f133)) 0) ⟨[(6,.c (.one (.v (.int .i64 j)))),(5,.c (.one (.v (.int .i64 i))))]++anyB' (writesC (hdC (loopsC (bodyOf Try.f133)) 0)) ([(0,.c (.one (.obj 0))),(1,.c (.fn 135 [.ptr 1 0]))]++tabV f 42),[⟨.us (.ext (.flat (.rw 109 [true,false,false,false] X))),true⟩,⟨.blk [.v (.string s)],false⟩],0⟩).al [true,false])=some qs∧∀ q∈qs,q:=
 ⟨[decide (j<(↑(FL.rw (109:TypeId) [true,false,false,false] X).n:Int))=true,(0:Int)≤j∧j.toNat<(FL.rw (109:TypeId) [true,false,false,false] X).n,(!((X.getD j.toNat Rw.zero).ss.getD (0:Nat) (ByteArray.mk #[])).toList==s.toList)=false,Th.ext (Dk.flat (FL.rw 109 [true,false,false,false] X))=Th.ext (Dk.flat (FL.rw 109 [true,false,false,false] X)),Value.string s=Value.string s,Value.int IntKind.i64 (IntKind.i64.wrap (j+(1:Int)))=Value.int IntKind.i64 j2,Value.int IntKind.i64 i=Value.int IntKind.i64 i],by kernel_rfl,(by refine mcons ?_ (mcons ?_ (mcons ?_ (mcons ?_ (mcons ?_ (mcons ?_ (mcons ?_ mnil))))))<;>first|rfl|exact h0|exact h1|exact h2|exact h3|trivial|(exact congrArg (Value.int .i64) h3))⟩
set_option maxRecDepth 100000 in
theorem del_x (X:List Rw) (s:ByteArray) (i j:Int) (k:Nat) (f:Nat→Value) (h0:decide (j<(X.length:Int))=false):∃ qs,alX Id' 2 0 [(5,.c (.one (.v (.int .i64 i))))] [⟨.us (.ext (.flat (.rw 109 [true,false,false,false] X))),true⟩,⟨.blk [.v (.string s)],false⟩] ((symC (⟨Try.prog,[(135,ctrF Id' C_dcl hardD)],[],dkHo,Id'.one,60⟩:Sy Td) [] 42 (hdC (loopsC (bodyOf Try.f133)) 0) ⟨[(6,.c (.one (.v (.int .i64 j)))),(5,.c (.one (.v (.int .i64 i))))]++anyB' (writesC (hdC (loopsC (bodyOf Try.f133)) 0)) ([(0,.c (.one (.obj 0))),(1,.c (.fn 135 [.ptr 1 0]))]++tabV f 42),[⟨.us (.ext (.flat (.rw 109 [true,false,false,false] X))),true⟩,⟨.blk [.v (.string s)],false⟩],0⟩).al [false])=some qs∧∀ q∈qs,q:=
 ⟨[decide (j<(↑(FL.rw (109:TypeId) [true,false,false,false] X).n:Int))=false,Th.ext (Dk.flat (FL.rw 109 [true,false,false,false] X))=Th.ext (Dk.flat (FL.rw 109 [true,false,false,false] X)),Value.string s=Value.string s,Value.int IntKind.i64 i=Value.int IntKind.i64 i],by kernel_rfl,(by refine mcons ?_ (mcons ?_ (mcons ?_ (mcons ?_ mnil)))<;>first|rfl|exact h0|trivial)⟩
def delS (s:ByteArray) (R:List Rw) (i0:Nat):Nat→List Rw×Nat
 |0=>(R,i0)
 |k+1=>bif keepR s ((delS s R i0 k).1.getD (i0+1+k) Rw.zero) then ((delS s R i0 k).1.set (delS s R i0 k).2 (nrm4 ((delS s R i0 k).1.getD (i0+1+k) Rw.zero)),(delS s R i0 k).2+1) else delS s R i0 k
theorem delS_len (s:ByteArray) (R:List Rw) (i0:Nat):∀ k,(delS s R i0 k).1.length=R.length∧(delS s R i0 k).2≤i0+k
 |0=>⟨rfl,Nat.le_refl _⟩
 |k+1=>by
  obtain ⟨h1,h2⟩:=delS_len s R i0 k
  unfold delS
  cases keepR s ((delS s R i0 k).1.getD (i0+1+k) Rw.zero) with
  |true=>exact ⟨by simp only [cond_true,List.length_set];exact h1,by simp only [cond_true];omega⟩
  |false=>exact ⟨by simp only [cond_false];exact h1,by simp only [cond_false];omega⟩
set_option maxRecDepth 100000 in
theorem del_lp (R:List Rw) (s:ByteArray) (i0:Nat) (hR:R.length≤100000) (hi:i0<R.length) {W0:World} {G:Nat→Prop} (S0:Sy Td) (hS0:S0.P=Try.prog):LoopSound S0 Id' W0 G 42 (hdC (loopsC (bodyOf Try.f133)) 0) (lpG Id' 42 (hdC (loopsC (bodyOf Try.f133)) 0) 2 [(6,.c (.one (.v (.int .i64 ((i0+1+0:Nat):Int))))),(5,.c (.one (.v (.int .i64 (i0:Int)))))] [(0,.c (.one (.obj 0))),(1,.c (.fn 135 [.ptr 1 0]))] [⟨.us (.ext (.flat (.rw 109 [true,false,false,false] R))),true⟩,⟨.blk [.v (.string s)],false⟩] (.leaf (.exit 0) [(5,.c (.one (.v (.int .i64 ((delS s R i0 (R.length - (i0+1))).2:Int)))))] [⟨.us (.ext (.flat (.rw 109 [true,false,false,false] (delS s R i0 (R.length - (i0+1))).1))),true⟩,⟨.blk [.v (.string s)],false⟩])):=by
 refine lp_sound (V:=fun k=>[(6,.c (.one (.v (.int .i64 ((i0+1+k:Nat):Int))))),(5,.c (.one (.v (.int .i64 ((delS s R i0 k).2:Int)))))]) (M:=(fun k=>[⟨.us (.ext (.flat (.rw 109 [true,false,false,false] (delS s R i0 k).1))),true⟩,⟨.blk [.v (.string s)],false⟩]:Nat→Mem Td)) (N:=R.length - (i0+1)) (Ux:=fun k x=>match x with|.exit 0=>some ([(5,.c (.one (.v (.int .i64 ((delS s R i0 (R.length - (i0+1))).2:Int)))))],([⟨.us (.ext (.flat (.rw 109 [true,false,false,false] (delS s R i0 (R.length - (i0+1))).1))),true⟩,⟨.blk [.v (.string s)],false⟩]:Mem Td))|_=>none) (X:=fun _ _=>True) (J:=fun k=>k≤R.length - (i0+1)) (fun k=>by kernel_rfl) (Nat.zero_le _) (fun k hk hJ f=>?_) (fun K hK k x U hk hU hX=>?_)
 ·rw [hS0]
  obtain ⟨hl1,hl2⟩:=delS_len s R i0 k
  cases hT:decide (((i0+1+k:Nat):Int)<((delS s R i0 k).1.length:Int)) with
  |false=>
   have hke:k=R.length - (i0+1):=by have:=of_decide_eq_false hT;omega
   subst hke
   exact rnd_xD (⟨Try.prog,[(135,ctrF Id' C_dcl hardD)],[],dkHo,Id'.one,60⟩:Sy Td) rfl ((fun (W0:World) (G:Nat→Prop)=>SyOk.mk2 Try.mixed dkHo_ok (FnsR.cons (R_dcl) (FnsR.nil)) EqsOk.nil) W0 G) (del_x (delS s R i0 (R.length - (i0+1))).1 s _ _ (R.length - (i0+1)) f hT) rfl trivial
  |true=>
   have hk1:=of_decide_eq_true hT
   have hW:IntKind.i64.wrap (((i0+1+k:Nat):Int)+1)=((i0+1+(k+1):Nat):Int):=by rw [IntWalk.i64_in _ (by omega)];omega
   cases hq:(!((((delS s R i0 k).1.getD (((i0+1+k:Nat):Int)).toNat Rw.zero).ss.getD 0 ⟨#[]⟩).toList==s.toList)) with
   |true=>
    have hq2:keepR s ((delS s R i0 k).1.getD (i0+1+k) Rw.zero)=true:=hq
    have hst:delS s R i0 (k+1)=((delS s R i0 k).1.set (delS s R i0 k).2 (nrm4 ((delS s R i0 k).1.getD (i0+1+k) Rw.zero)),(delS s R i0 k).2+1):=by rw [delS,hq2];rfl
    have hW2:IntKind.i64.wrap (((delS s R i0 k).2:Int)+1)=((delS s R i0 (k+1)).2:Int):=by rw [hst,IntWalk.i64_in _ (by omega)];show _=(((delS s R i0 k).2+1:Nat):Int);omega
    exact rnd_nD (⟨Try.prog,[(135,ctrF Id' C_dcl hardD)],[],dkHo,Id'.one,60⟩:Sy Td) rfl ((fun (W0:World) (G:Nat→Prop)=>SyOk.mk2 Try.mixed dkHo_ok (FnsR.cons (R_dcl) (FnsR.nil)) EqsOk.nil) W0 G) (del_n1 (delS s R i0 k).1 (delS s R i0 (k+1)).1 s _ _ _ _ k f hT ⟨by omega,by omega⟩ hq ⟨by omega,by omega⟩ (by rw [hst];rfl) hW hW2) rfl rfl (by omega) (by omega)
   |false=>
    have hq2:keepR s ((delS s R i0 k).1.getD (i0+1+k) Rw.zero)=false:=hq
    have hst:delS s R i0 (k+1)=(delS s R i0 k):=by rw [delS,hq2];rfl
    have hn:=del_n0 (delS s R i0 k).1 s ((delS s R i0 k).2:Int) _ _ k f hT ⟨by omega,by omega⟩ hq hW
    rw [← hst] at hn
    rw [hst] at hn
    refine rnd_nD (⟨Try.prog,[(135,ctrF Id' C_dcl hardD)],[],dkHo,Id'.one,60⟩:Sy Td) rfl ((fun (W0:World) (G:Nat→Prop)=>SyOk.mk2 Try.mixed dkHo_ok (FnsR.cons (R_dcl) (FnsR.nil)) EqsOk.nil) W0 G) (by rw [hst];exact hn) rfl rfl (by omega) (by omega)
 ·revert hU
  match x with
  |.exit 0=>intro hU;simp only [Option.some.injEq] at hU;subst hU;exact hK
  |.normal=>intro hU;cases hU
  |.ret=>intro hU;cases hU
  |.exit (n+1)=>intro hU;cases hU
end Go.Proofs.Ytdenmoiaiemokaa
set_option linter.unusedVariables false
set_option linter.unusedSimpArgs false
namespace Go.Proofs.Ytdenmoiaiemokaa
open Go.RowKit
theorem RW_ixd:RowOk Try.prog Id' hardD 153 (ctrF Id' (wkC C_ixd) hardD):=ctrF_ok Try.call153 (wkC_ok C_ixd_ok)
set_option maxRecDepth 100000 in
theorem delA_w0 (R:List Rw) (s:ByteArray) (h0:R.length≤100000) (h1:(fstI R.length (nmI R s)==(-1:Int))=true):∃ qs,wayO Id' ([⟨.us (.ext (.flat (.rw 109 [true,false,false,false] R))),true⟩,⟨.blk [.v (.string s)],false⟩]:Mem Td).length [⟨.us (.ext (.flat (.rw 109 [true,false,false,false] R))),true⟩,⟨.blk [.v (.string s)],false⟩] (.c (.one (.obj 0))) ((runFn (⟨Try.prog,[(153,ctrF Id' (wkC C_ixd) hardD)],[],dkHo,Id'.one,60⟩:Sy Td) [] Try.f133 [.one (.obj 0),.fn 135 [.ptr 1 0]] [⟨.us (.ext (.flat (.rw 109 [true,false,false,false] R))),true⟩,⟨.blk [.v (.string s)],false⟩]).al [true])=some qs∧∀ q∈qs,q:=
 ⟨[R.length≤(100000:Nat),(fstI R.length (nmI R s)==(-1:Int))=true,Th.ext (Dk.flat (FL.rw 109 [true,false,false,false] R))=Th.ext (Dk.flat (FL.rw 109 [true,false,false,false] R)),Value.string s=Value.string s],by kernel_rfl,(by refine mcons ?_ (mcons ?_ (mcons ?_ (mcons ?_ mnil)))<;>first|rfl|exact h0|exact h1|trivial)⟩
set_option maxRecDepth 100000 in
theorem delB_w0 (R:List Rw) (s:ByteArray) (i0:Nat) (h0:R.length≤100000) (h1:(fstI R.length (nmI R s)==(-1:Int))=false) (h2:IntKind.i64.wrap (fstI R.length (nmI R s)+1)=((i0+1+0:Nat):Int)) (h3:fstI R.length (nmI R s)=(i0:Int)) (h4:(0:Int)≤((delS s R i0 (R.length - (i0+1))).2:Int)∧((delS s R i0 (R.length - (i0+1))).2:Int)≤((delS s R i0 (R.length - (i0+1))).1.length:Int)∧((delS s R i0 (R.length - (i0+1))).1.length:Int)≤((delS s R i0 (R.length - (i0+1))).1.length:Int)) (h5:(0:Int)≤(0:Int)∧(0:Int)≤((delS s R i0 (R.length - (i0+1))).2:Int)∧((delS s R i0 (R.length - (i0+1))).2:Int)≤(((delS s R i0 (R.length - (i0+1))).1.take (delS s R i0 (R.length - (i0+1))).2++List.replicate ((delS s R i0 (R.length - (i0+1))).1.length - (delS s R i0 (R.length - (i0+1))).2) Rw.zero).length:Int)):∃ qs,wayO Id' ([⟨.us (.ext (.flat (.rw 109 [true,false,false,false] R))),true⟩,⟨.blk [.v (.string s)],false⟩]:Mem Td).length [⟨.us (.ext (.flat (.rw 109 [true,false,false,false] ((delS s R i0 (R.length - (i0+1))).1.take (delS s R i0 (R.length - (i0+1))).2++List.replicate ((delS s R i0 (R.length - (i0+1))).1.length - (delS s R i0 (R.length - (i0+1))).2) Rw.zero)))),true⟩,⟨.blk [.v (.string s)],false⟩] (.c (.one (.sub 0 4 0 (delS s R i0 (R.length - (i0+1))).2))) ((runFn (⟨Try.prog,[(153,ctrF Id' (wkC C_ixd) hardD)],[],dkHo,Id'.one,60⟩:Sy Td) [(5,(lpG Id' 42 (hdC (loopsC (bodyOf Try.f133)) 0) 2 [(6,.c (.one (.v (.int .i64 ((i0+1+0:Nat):Int))))),(5,.c (.one (.v (.int .i64 (i0:Int)))))] [(0,.c (.one (.obj 0))),(1,.c (.fn 135 [.ptr 1 0]))] [⟨.us (.ext (.flat (.rw 109 [true,false,false,false] R))),true⟩,⟨.blk [.v (.string s)],false⟩] (.leaf (.exit 0) [(5,.c (.one (.v (.int .i64 ((delS s R i0 (R.length - (i0+1))).2:Int)))))] [⟨.us (.ext (.flat (.rw 109 [true,false,false,false] (delS s R i0 (R.length - (i0+1))).1))),true⟩,⟨.blk [.v (.string s)],false⟩])))] Try.f133 [.one (.obj 0),.fn 135 [.ptr 1 0]] [⟨.us (.ext (.flat (.rw 109 [true,false,false,false] R))),true⟩,⟨.blk [.v (.string s)],false⟩]).al [false])=some qs∧∀ q∈qs,q:=
 ⟨[R.length≤(100000:Nat),(fstI R.length (nmI R s)==(-1:Int))=false,Th.ext (Dk.flat (FL.rw 109 [true,false,false,false] R))=Th.ext (Dk.flat (FL.rw 109 [true,false,false,false] R)),Value.string s=Value.string s,Value.int IntKind.i64 (IntKind.i64.wrap (fstI R.length (nmI R s)+(1:Int)))=Value.int IntKind.i64 (↑(i0+(1:Nat)+(0:Nat)):Int),Value.int IntKind.i64 (fstI R.length (nmI R s))=Value.int IntKind.i64 (↑i0:Int),(↑(delS s R i0 (R.length - (i0+(1:Nat)))).fst.length:Int).toNat=(delS s R i0 (R.length - (i0+(1:Nat)))).fst.length,(0:Int)≤(↑(delS s R i0 (R.length - (i0+(1:Nat)))).snd:Int)∧(↑(delS s R i0 (R.length - (i0+(1:Nat)))).snd:Int)≤(↑(delS s R i0 (R.length - (i0+(1:Nat)))).fst.length:Int)∧(↑(delS s R i0 (R.length - (i0+(1:Nat)))).fst.length:Int)≤(↑(delS s R i0 (R.length - (i0+(1:Nat)))).fst.length:Int),(0:Int)≤(0:Int)∧(0:Int)≤(↑(delS s R i0 (R.length - (i0+(1:Nat)))).snd:Int)∧(↑(delS s R i0 (R.length - (i0+(1:Nat)))).snd:Int)≤(↑(List.take (↑(delS s R i0 (R.length - (i0+(1:Nat)))).snd:Int).toNat (delS s R i0 (R.length - (i0+(1:Nat)))).fst++List.replicate ((↑(delS s R i0 (R.length - (i0+(1:Nat)))).fst.length:Int).toNat - (↑(delS s R i0 (R.length - (i0+(1:Nat)))).snd:Int).toNat) Rw.zero).length:Int),(Th.ext (Dk.flat (FL.rw 109 [true,false,false,false] ((delS s R i0 (R.length - (i0+1))).1.take (delS s R i0 (R.length - (i0+1))).2++List.replicate ((delS s R i0 (R.length - (i0+1))).1.length - (delS s R i0 (R.length - (i0+1))).2) Rw.zero))):Td)=Th.ext (Dk.flat (FL.rw 109 [true,false,false,false] ((delS s R i0 (R.length - (i0+1))).1.take (delS s R i0 (R.length - (i0+1))).2++List.replicate ((delS s R i0 (R.length - (i0+1))).1.length - (delS s R i0 (R.length - (i0+1))).2) Rw.zero))),Value.string s=Value.string s,(4:Nat)=[true,false,false,false].length∧(0:Nat)=Int.toNat (0:Int)∧(delS s R i0 (R.length - (i0+(1:Nat)))).snd=(↑(delS s R i0 (R.length - (i0+(1:Nat)))).snd:Int).toNat],by kernel_rfl,(by refine mcons ?_ (mcons ?_ (mcons ?_ (mcons ?_ (mcons ?_ (mcons ?_ (mcons ?_ (mcons ?_ (mcons ?_ (mcons ?_ (mcons ?_ (mcons ?_ mnil)))))))))))<;>first|rfl|exact h0|exact h1|exact h2|exact h3|exact h4|exact h5|trivial|(exact congrArg (Value.int .i64) h2)|(exact congrArg (Value.int .i64) h3)|(exact ⟨rfl,rfl,rfl⟩))⟩
theorem delS_inv (s:ByteArray) (R:List Rw) (i0:Nat) (hn:R.map nrm4=R) (hi:i0<R.length) (h0:keepR s (R.getD i0 Rw.zero)=false) (hk0:∀ q,q<i0→keepR s (R.getD q Rw.zero)=true):∀ k,i0+1+k≤R.length→
  (delS s R i0 k).1.take (delS s R i0 k).2=(R.take (i0+1+k)).filter (keepR s)∧∀ q,i0+1+k≤q→(delS s R i0 k).1[q]? =R[q]?
 |0,_=>by
  refine ⟨?_,fun q _=>rfl⟩
  show R.take i0=(R.take (i0+1)).filter (keepR s)
  have hx:R.getD i0 Rw.zero=R[i0]:=by rw [List.getD_eq_getElem?_getD,List.getElem?_eq_getElem hi];rfl
  rw [List.take_add_one,List.getElem?_eq_getElem hi,List.filter_append]
  rw [hx] at h0
  rw [show (some R[i0]).toList=[R[i0]] from rfl,show List.filter (keepR s) [R[i0]]=[] by simp [h0],List.append_nil]
  symm
  rw [List.filter_eq_self]
  intro x hx'
  obtain ⟨q,hq,rfl⟩:=List.mem_iff_getElem.1 hx'
  rw [List.length_take] at hq
  have:=hk0 q (by omega)
  rw [List.getD_eq_getElem?_getD,List.getElem?_eq_getElem (by omega)] at this
  simpa using this
 |k+1,hk=>by
  obtain ⟨h1,h2⟩:=delS_inv s R i0 hn hi h0 hk0 k (by omega)
  obtain ⟨g1,g2⟩:=delS_len s R i0 k
  have hj:i0+1+k<R.length:=by omega
  have hx:(delS s R i0 k).1.getD (i0+1+k) Rw.zero=R[i0+1+k]:=by rw [List.getD_eq_getElem?_getD,h2 _ (Nat.le_refl _),List.getElem?_eq_getElem hj];rfl
  have hnx:nrm4 R[i0+1+k]=R[i0+1+k]:=by
   have:=congrArg (fun l=>l[i0+1+k]?) hn
   simp only [List.getElem?_map,List.getElem?_eq_getElem hj,Option.map_some,Option.some.injEq] at this
   exact this
  have htk:R.take (i0+1+(k+1))=R.take (i0+1+k)++[R[i0+1+k]]:=by
   rw [show i0+1+(k+1)=i0+1+k+1 by omega,List.take_add_one,List.getElem?_eq_getElem hj];rfl
  rw [htk,List.filter_append]
  unfold delS
  rw [hx]
  cases hq:keepR s R[i0+1+k] with
  |true=>
   simp only [cond_true]
   refine ⟨?_,fun q hq'=>?_⟩
   ·rw [hnx,←h1,show List.filter (keepR s) [R[i0+1+k]]=[R[i0+1+k]] by simp [hq],List.take_add_one,List.getElem?_set_self (by omega)]
    rw [List.take_set_of_le (Nat.le_refl _)]
    rfl
   ·rw [List.getElem?_set_ne (by omega)]
    exact h2 q (by omega)
  |false=>
   simp only [cond_false]
   refine ⟨?_,fun q hq'=>h2 q (by omega)⟩
   rw [h1,show List.filter (keepR s) [R[i0+1+k]]=[] by simp [hq],List.append_nil]
theorem nmI_keep (R:List Rw) (s:ByteArray) (i:Int):nmI R s i=keepR s (R.getD i.toNat Rw.zero):=rfl
theorem del_all {R:List Rw} {s:ByteArray} (h:∀ i:Int,((0:Nat):Int)≤i→i.toNat<R.length→nmI R s i=true):R.filter (keepR s)=R:=by
 rw [List.filter_eq_self]
 intro x hx
 obtain ⟨q,hq,rfl⟩:=List.mem_iff_getElem.1 hx
 have:=h (q:Int) (by omega) (by simpa using hq)
 rw [nmI_keep,Int.toNat_natCast,List.getD_eq_getElem?_getD,List.getElem?_eq_getElem hq] at this
 simpa using this
end Go.Proofs.Ytdenmoiaiemokaa
set_option linter.unusedVariables false
set_option linter.unusedSimpArgs false
namespace Go.Proofs.Ytdenmoiaiemokaa
open Go.RowKit
def C_dele:Ctr Td:=fun us sub=>match us,sub with
 |[.one (.obj 0),.fn 135 [.ptr 1 0]],[⟨.us (.ext (.flat (.rw 109 [true,false,false,false] R))),true⟩,⟨.blk [.v (.string s)],false⟩]=>some ([R.length≤100000,R.map nrm4=R],.c (.one (.obj 2)),[⟨.dead,true⟩,⟨.blk [.v (.string s)],false⟩,⟨.us (.ext (.flat (.rw 109 [true,false,false,false] (R.filter (keepR s))))),true⟩])
 |_,_=>none
theorem own_self {W0:World} {G:Nat→Prop} {w:World} {e:Env} {mem:Mem Td} (hM:MemOk W0 G Id' w e mem) {i x:Nat} {ks:List Bool} {R:List Rw} {v:Value} (hm:mem[i]? =some ⟨.us (.ext (.flat (.rw x ks R))),true⟩) (hv:e[i]? =some v):(PV.sub i ks.length 0 R.length).is e v:=by
 obtain ⟨z0,B,hB,hown⟩:=hM.holds i _ _ hv hm
 rw [FL.len] at hown
 obtain ⟨_,ao,cap,hvv,hcap,_⟩:=Rs.of_owns hown
 have hvv:v=.slice ao R.length cap:=hvv
 refine ⟨ao,R.length,cap,by rw [← hvv];exact hv,Nat.zero_le _,Nat.le_refl _,?_⟩
 rw [hvv,Nat.sub_zero,Nat.sub_zero,Nat.zero_mul]
 cases ao with
 |none=>split<;>rfl
 |some y=>
  split
  ·rfl
  ·simp [Addr.add]
set_option maxRecDepth 100000 in
theorem C_dele_ok:CtrOk Try.prog Id' 133 C_dele:=by
 intro us sub ps x sm h hp w e vs hM ha
 unfold C_dele at h
 split at h
 ·rename_i R s
  simp only [Option.some.injEq,Prod.mk.injEq] at h
  obtain ⟨rfl,rfl,rfl⟩:=h
  have hL:R.length≤100000:=hp _ (List.mem_cons_self ..)
  have hn:R.map nrm4=R:=hp _ (List.mem_cons_of_mem _ (List.mem_cons_self ..))
  have hend:∀ {e':Env} {v:Value} {w':World} {m:Mem Td} {G:Nat→Prop},MemOk w G Id' w' e' m→m.length=2→(e'++[v])[2]? =some v:=fun hM' hl=>by
   rw [List.getElem?_append_right (by rw [hM'.len];omega),hM'.len,hl];rfl
  rcases fst_cases R.length (nmI R s) with ⟨hv,hall⟩|⟨h1,h2,h3,h4⟩
  ·refine (ctr_way (I:=Id') (fun (W0:World) (G:Nat→Prop)=>SyOk.mk2 Try.mixed dkHo_ok (FnsR.cons (RW_ixd) (FnsR.nil)) EqsOk.nil) rfl Try.func133 (by kernel_rfl) (fun W0 G=>LpsOk.nil _) (cs:=[true]) (by kernel_rfl) (delA_w0 R s hL (by rw [hv];rfl)) w e vs hM ha).mono fun y w' ⟨v,e',g1,g2,g3,g4⟩=>⟨v,e'++[v],g1,g2.trans (Grows.push e' v),hend g4 rfl,?_⟩
   have g5:=own_front (u:=undef) g4 (i:=0) rfl (own_self g4 (i:=0) rfl g3)
   rw [List.take_of_length_le (Nat.le_refl _)] at g5
   rw [del_all hall]
   exact g5
  ·obtain ⟨i0,hi0⟩:∃ i0:Nat,fstI R.length (nmI R s)=(i0:Int):=⟨_,(Int.toNat_of_nonneg h1).symm⟩
   have hi:i0<R.length:=by rw [hi0] at h2;simpa using h2
   obtain ⟨l1,l2⟩:=delS_len s R i0 (R.length - (i0+1))
   have hk:=(delS_inv s R i0 hn hi (by rw [hi0] at h3;exact h3) (fun q hq=>by have:=h4 (q:Int) (by omega) (by omega);exact this) (R.length - (i0+1)) (by omega)).1
   rw [List.take_of_length_le (l:=R) (by omega)] at hk
   refine (ctr_way (I:=Id') (fun (W0:World) (G:Nat→Prop)=>SyOk.mk2 Try.mixed dkHo_ok (FnsR.cons (RW_ixd) (FnsR.nil)) EqsOk.nil) rfl Try.func133 (by kernel_rfl) (fun W0 G=>LpsOk.cons (by kernel_rfl) (del_lp R s i0 hL hi _ rfl) (LpsOk.nil _)) (cs:=[false]) (by kernel_rfl) (delB_w0 R s i0 hL (beq_eq_false_iff_ne.2 (by omega)) (by rw [hi0,IntWalk.i64_in _ (by omega)];omega) hi0 ⟨by omega,by omega,by omega⟩ ⟨Int.le_refl _,by omega,by rw [List.length_append,List.length_take,List.length_replicate];omega⟩) w e vs hM ha).mono fun y w' ⟨v,e',g1,g2,g3,g4⟩=>⟨v,e'++[v],g1,g2.trans (Grows.push e' v),hend g4 rfl,?_⟩
   have g5:=own_front (u:=undef) g4 (i:=0) rfl g3
   rw [List.take_append_of_le_length (by rw [List.length_take];omega),List.take_take,Nat.min_self,hk] at g5
   exact g5
 ·cases h
theorem R_dele:RowOk Try.prog Id' hardD 133 (ctrF Id' C_dele hardD):=ctrF_ok Try.call133 C_dele_ok
end Go.Proofs.Ytdenmoiaiemokaa
set_option linter.unusedVariables false
set_option linter.unusedSimpArgs false
namespace Go.Proofs.Ytdenmoiaiemokaa
open Go.RowKit
set_option maxHeartbeats 1000000 in
theorem cloneE_c (v:Value) (n:Nat) (xs:List Value) (w:World) (h:Rs w 4 v n xs) (h1:∀ u∈xs,u.oneCell'=true) (hl:n≤100000):
  Calls Try.prog 134 #[v] w fun e w'=>∃ v',e=.returned v'∧Ext w w'∧w'.ownsRow w.heap.size 109 4 v' n xs:=by
 have h0:=h
 obtain ⟨ao,cap,rfl,ca1,ca2,ca3,ca0,hca⟩:=h0.open
 clear h0 hca
 have H:=Lib.hid h;clear h
 have H1:=Lib.hid h1;clear h1
 cases ao with
 |none=>
  have hc:=ca3 rfl
  subst hc
  have hn:n=0:=by omega
  subst hn
  have hx:xs=[]:=List.eq_nil_of_length_eq_zero (by omega)
  subst hx
  clear ca0 ca1 ca2 ca3
  have hnil:∀ w,(binOp .eql 93 (.slice none 0 0) (.slice none 0 0)).run Try.prog w=.ok (.bool true) w:=fun w=>Lib.run_eql_slice_nil w 93 109 none 0 0 0 0 Try.underlying93
  go_enter Try.func134,Try.ntmps134
  go_wp2
  go_ret
  exact ⟨_,rfl,Ext.refl w,World.ownsRow_nil _ _ _ _⟩
 |some a=>
  clear ca3
  have etE:ElemT Try.prog 93 109 4 40:=ElemT.mk' Try.underlying93 (z:=.agg #[.string ⟨#[]⟩,.int .i64 0,.int .i64 0,.int .i64 0]) (by kernel_rfl) rfl (by decide)
  have HE:=Lib.hid etE;clear etE
  have hnil:∀ w,(binOp .eql 93 (.slice (some a) n cap) (.slice none 0 0)).run Try.prog w=.ok (.bool false) w:=fun w=>Lib.run_eql_slice_nil w 93 109 (some a) n cap 0 0 Try.underlying93
  go_enter Try.func134,Try.ntmps134
  go_wp2_with (first|(at_builtin;go_loud (refine wpList_app rfl (.tmp 5) (.tmp 6) 93 rfl HE.out w.heap.size rfl (owns_lit (n:=0) (size:=4) (cs:=#[]) rfl (Nat.le_refl _) (by decide)) rfl (by have:=H.out.ext ((Ext.refl w).alloc (.cells #[] 109));exact this) H1.out (by omega) (by omega) (by simp) ?_);intro v' w1 hown hgr _)|fail)
  rw [Nat.zero_add] at hown
  obtain ⟨ao,cap',rfl⟩:=owns_shape hown
  go_ret
  exact ⟨_,rfl,((Ext.refl w).alloc _).grown hgr (fun k hk=>by cases hk;exact Nat.le_refl _),by simpa using hown⟩
def C_clE:Ctr Td:=fun us sub=>match us,sub with
 |[.one (.obj 0)],[⟨.us (.ext (.vw [true,false,false,false] R)),false⟩]=>some ([R.length≤100000],.c (.one (.obj 1)),[⟨.us (.ext (.vw [true,false,false,false] R)),false⟩,⟨.us (.ext (.flat (.rw 109 [true,false,false,false] R))),true⟩])
 |_,_=>none
theorem C_clE_ok:CtrOk Try.prog Id' 134 C_clE:=by
 intro us sub ps x sm h hp w e vs hM ha
 unfold C_clE at h
 split at h
 ·rename_i R
  simp only [Option.some.injEq,Prod.mk.injEq] at h
  obtain ⟨rfl,rfl,rfl⟩:=h
  have hL:R.length≤100000:=hp _ (List.mem_cons_self ..)
  obtain ⟨u0,rfl,a0⟩:=allC1 ha
  have hE:e[0]? =some u0:=is_one a0
  obtain ⟨k0,hR⟩:=hM.holds 0 _ _ hE rfl
  refine (cloneE_c u0 R.length (R.map (rwV [true,false,false,false])).flatten w hR rows_ones hL).mono fun y w' ⟨v,g1,g2,g3⟩=>⟨v,e++[v],g1,Grows.push e v,?_,?_⟩
  ·show (e++[v])[1]? =some v
   have:=hM.len
   rw [List.getElem?_append_right (by rw [this];exact Nat.le_refl _),this];rfl
  ·refine hM.push g2 v ⟨.us (.ext (.flat (.rw 109 [true,false,false,false] R))),true⟩ ⟨fun r hr=>?_,w.heap.size,g2.size,by rw [FL.len];exact g3⟩ fun k hk=>?_
   ·obtain ⟨y,_,rfl⟩:=List.mem_map.1 hr
    exact rwV_len _ y
   ·exact owns_block g3 hk
 ·cases h
theorem R_clE:RowOk Try.prog Id' hardD 134 (ctrF Id' C_clE hardD):=ctrF_ok Try.call134 C_clE_ok
end Go.Proofs.Ytdenmoiaiemokaa
set_option linter.unusedVariables false
set_option linter.unusedSimpArgs false
namespace Go.Proofs.Ytdenmoiaiemokaa
open Go.RowKit
set_option maxRecDepth 100000 in
theorem ddrop_w0 (R:List Rw) (s:ByteArray) (h0:R.length≤100000) (h1:R.map nrm4=R):∃ qs,wayO Id' ([⟨.us (.ext (.vw [true,false,false,false] R)),false⟩]:Mem Td).length [⟨.us (.ext (.vw [true,false,false,false] R)),false⟩,⟨.us (.ext (.flat (.rw 109 [true,false,false,false] (R.filter (keepR s))))),true⟩] (.c (.one (.obj 1))) ((runFn (⟨Try.prog,[],[],dkHo,Id'.one,60⟩:Sy Td) [(100001,mapG (modAt fzE 1) (⟨Try.prog,[(134,ctrF Id' C_clE hardD),(133,ctrF Id' C_dele hardD)],[],dkHo,Id'.one,60⟩:Sy Td) 9 (regO 1 (bodyOf Try.f68)) (drwR 1 (bodyOf Try.f68)))] Try.f68 [.one (.obj 0),.one (.v (.string s))] [⟨.us (.ext (.vw [true,false,false,false] R)),false⟩]).al [])=some qs∧∀ q∈qs,q:=
 ⟨[R.length≤(100000:Nat),R.map nrm4=R,R.length≤(100000:Nat),Th.ext (Dk.vw [true,false,false,false] R)=Th.ext (Dk.vw [true,false,false,false] R),(Th.ext (Dk.flat (FL.rw 109 [true,false,false,false] (R.filter (keepR s)))):Td)=Th.ext (Dk.flat (FL.rw 109 [true,false,false,false] (R.filter (keepR s))))],by kernel_rfl,(by refine mcons ?_ (mcons ?_ (mcons ?_ (mcons ?_ (mcons ?_ mnil))))<;>first|rfl|exact h0|exact h1|trivial)⟩
def C_ddrop:Ctr Td:=fun us sub=>match us,sub with
 |[.one (.obj 0),.one (.v (.string s))],[⟨.us (.ext (.vw [true,false,false,false] R)),false⟩]=>some ([R.length≤100000,R.map nrm4=R],.c (.one (.obj 1)),[⟨.us (.ext (.vw [true,false,false,false] R)),false⟩,⟨.us (.ext (.flat (.rw 109 [true,false,false,false] (R.filter (keepR s))))),true⟩])
 |_,_=>none
set_option maxRecDepth 100000 in
theorem C_ddrop_ok:CtrOk Try.prog Id' 68 C_ddrop:=by
 intro us sub ps x sm h hp w e vs hM ha
 unfold C_ddrop at h
 split at h
 ·rename_i s R
  simp only [Option.some.injEq,Prod.mk.injEq] at h
  obtain ⟨rfl,rfl,rfl⟩:=h
  have hL:R.length≤100000:=hp _ (List.mem_cons_self ..)
  have hn:R.map nrm4=R:=hp _ (List.mem_cons_of_mem _ (List.mem_cons_self ..))
  exact ctr_way (I:=Id') (fun (W0:World) (G:Nat→Prop)=>SyOk.mk2 Try.mixed dkHo_ok (FnsR.nil) EqsOk.nil) rfl Try.func68 (by kernel_rfl) (fun W0 G=>LpsOk.cons (by kernel_rfl) (mapG_sound (id:=1) ((fun (W0:World) (G:Nat→Prop)=>SyOk.mk2 Try.mixed dkHo_ok (FnsR.cons (R_clE) (FnsR.cons (R_dele) (FnsR.nil))) EqsOk.nil) W0 G) rfl (fun w e mem h=>fz_ok (W0:=W0) (G:=G) 1 w e mem h)) (LpsOk.nil _)) (cs:=[]) (by kernel_rfl) (ddrop_w0 R s hL hn) w e vs hM ha
 ·cases h
theorem RW_ddrop:RowOk Try.prog Id' hardD 68 (ctrF Id' (wkC C_ddrop) hardD):=ctrF_ok Try.call68 (wkC_ok C_ddrop_ok)
end Go.Proofs.Ytdenmoiaiemokaa
set_option linter.unusedVariables false
set_option linter.unusedSimpArgs false
namespace Go.Proofs.Ytdenmoiaiemokaa
open Go.RowKit
section
variable {P:Program}
theorem run_app_full {w:World} {t ty e:TypeId} {size bytes:Nat} (hE:ElemT P t e size bytes) {ao:Option Addr} {n:Nat} {olds:List Value} (hO:Rs w size (.slice ao n n) n olds)
  {u:Value} {m:Nat} {news:List Value} (hR:Rs w size u m news) (hm:0<m) (h63:n+m≤9223372036854775807) (hbytes:(n+m) * bytes≤140737488355328):
  ∃ v' w',(Builtin.append_ #[t,t] ty #[.slice ao n n,u]).run P w=.ok v' w'∧w'.ownsRow w.heap.size e size v' (n+m) (olds++news)∧Ext w w':=by
 obtain ⟨i,z,ht,hi,hz,hsize,hby,hzs,hsz⟩:=hE
 subst hsize
 subst hby
 obtain ⟨ad,c,rfl,hl,hnews⟩:∃ ad c,u=.slice (some ad) m c∧news.length=m * i.size∧∀ j v,news[j]? =some v→w.cell? (ad.add j)=some v:=by
  obtain ⟨hl,ao',cap,rfl,h1,h2,h3,h4⟩:=hR
  cases ao' with
  |none=>have:=h3 rfl;omega
  |some ad=>exact ⟨ad,cap,rfl,hl,h4 ad rfl⟩
 obtain ⟨hlo,ao',cap',he,_,hcm',hnone,holds⟩:=hO
 cases he
 have hlen:(olds++news).length=(n+m) * i.size:=by rw [List.length_append,hlo,hl,Nat.add_mul]
 have grown:(w.drew.alloc (.cells (olds.toArray++news.toArray++Builtin.zeroCells z.cells (grownCap w (n+m) n e - (n+m))) e)).ownsRow w.heap.size e i.size
    (.slice (some ⟨w.heap.size,0,none⟩) (n+m) (grownCap w (n+m) n e)) (n+m) (olds++news)∧
   w.grownBy (w.drew.alloc (.cells (olds.toArray++news.toArray++Builtin.zeroCells z.cells (grownCap w (n+m) n e - (n+m))) e)) none:=by
  have hge:=grownCap_ge w (n+m) n e
  have hcm:grownCap w (n+m) n e≤maxLen:=grownCap_le_maxLen w (n+m) n e (by simp only [maxLen];omega)
  refine ⟨⟨hlen,.inr ⟨w.heap.size,_,_,rfl,Nat.le_refl _,heap_alloc_new w.drew _,hge,hcm,?_,?_⟩⟩,⟨rfl,rfl,rfl,by simp,fun k hk _=>heap_alloc_old w.drew _ hk⟩⟩
  ·simp only [Array.size_append,List.size_toArray,size_zeroCells,hzs,hlo,hl,←Nat.add_mul]
   congr 1
   omega
  ·simp only [Array.toList_append,List.append_assoc]
   rw [← List.append_assoc,←hlen]
   exact List.take_left
 have hx:=(Ext.refl w).grown grown.2 (fun k hk=>by cases hk)
 cases ao with
 |none=>
  have h0:=hnone rfl
  subst h0
  have ho:olds=[]:=List.eq_nil_of_length_eq_zero (by simpa using hlo)
  subst ho
  have hr:=run_append_nil (P:=P) w t ty e i z ht hi hz ad m c news hl hnews hm (by omega) (by have hb:=hbytes;simp only [Nat.zero_add] at hb;omega)
  simp only [Nat.zero_add,List.nil_append,Array.empty_append] at grown hx ⊢
  exact ⟨_,_,hr,grown.1,hx⟩
 |some b=>
  have hr:=run_append_grow (P:=P) w t ty e i z ht hi hz b n n olds hlo (holds b rfl) ad m c news hl hnews (by omega) (by omega) (growslice_fits (by omega) hbytes)
  exact ⟨_,_,hr,grown.1,hx⟩
theorem givesR_full {o:Oper} {ρ:Operand→Value} {w:World} {Post:Value→World→Prop} (s x:Operand) (t:TypeId)
  (ho:o.op=.call { callee:=.builtin .append,args:=#[s,x],argTypes:=#[t,t] }) {e:TypeId} {size bytes:Nat} (hE:ElemT P t e size bytes)
  {ao:Option Addr} {n:Nat} {olds:List Value} (hs:ρ s=.slice ao n n) (hO:Rs w size (.slice ao n n) n olds)
  {u:Value} {m:Nat} {news:List Value} (hx:ρ x=u) (hR:Rs w size u m news) (hm:0<m) (h63:n+m≤9223372036854775807) (hbytes:(n+m) * bytes≤140737488355328)
  (h:∀ v' w',w'.ownsRow w.heap.size e size v' (n+m) (olds++news)→Ext w w'→Post v' w'):givesR P o ρ w Post:=by
 obtain ⟨v',w',hr,h2,h3⟩:=run_app_full (ty:=o.type) hE hO hR hm h63 hbytes
 rw [givesR_eq]
 unfold execOp
 simp only [ho,resolve,invoke,builtin,Sem.run_bind,Sem.run_pure,Result.andThen_ok,List.map_toArray,List.map_cons,List.map_nil,hs,hx,hr]
 exact h v' w' h2 h3
end
end Go.Proofs.Ytdenmoiaiemokaa
set_option linter.unusedVariables false
set_option linter.unusedSimpArgs false
namespace Go.Proofs.Ytdenmoiaiemokaa
open Go.RowKit
theorem rwNil (t:TypeId) (ks:List Bool):∀ (w:World),Id'.holds (Th.ext (Dk.flat (FL.rw t ks []))) w nilV∧∀ (j:Nat),¬Id'.foot (Th.ext (Dk.flat (FL.rw t ks []))) w nilV j:=fun w=>⟨⟨(fun r hr=>by cases hr),0,Nat.zero_le _,World.ownsRow_nil _ _ _ _⟩,fun j h=>by cases h⟩
theorem vwNil:∀ (w:World),Id'.holds (Th.ext (Dk.vw [true,false,false,false] [])) w nilV∧∀ (j:Nat),¬Id'.foot (Th.ext (Dk.vw [true,false,false,false] [])) w nilV j:=fun w=>⟨⟨by decide,Rs.nil w 4⟩,fun j h=>h.1 rfl⟩
set_option maxRecDepth 100000 in
theorem dentA_w0 (L:List (List UInt8)) (h0:((stO L L.length)).length≤(1000:Nat)) (h1:(dbB (stO L L.length)).length≤(100000:Nat)) (h2:(dbE (stO L L.length) != (0:Int))=true):∃ qs,wayO Id' ([⟨.us (.ext (.shr 1 L.length (tbE L))),false⟩]:Mem Td).length [⟨.us (.ext (.shr 1 L.length (tbE L))),false⟩,⟨.us (.ext (.vw [true,false,false,false] ([]:List Rw))),false⟩] (.tup [.one (.obj 1),.one (.v (.int .i64 4))]) ((runFn (⟨Try.prog,[(58,ctrF Id' C_dblocks hardD),(126,ctrF Id' (wkC (C_eqf (dbB (stO L L.length)) L)) hardD)],[],dkHo,Id'.one,60⟩:Sy Td) [(3,(lpG Id' 46 (hdC (loopsC (bodyOf Try.f61)) 0) 1 [(13,.c (.one (.v (.int .i64 ((0:Nat):Int))))),(4,.c (.one (.obj 1)))] [(0,.c (.one (.obj 0))),(11,.c (.one (.obj 0))),(12,.c (.one (.v (.int .i64 (L.length:Int)))))] [⟨.us (.ext (.shr 1 L.length (tbE L))),false⟩,⟨.us (.ext (.flat (.rw 109 [true,false,false,false] (stO L 0)))),true⟩] (.leaf (.exit 0) [(4,.c (.one (.obj 1)))] [⟨.us (.ext (.shr 1 L.length (tbE L))),false⟩,⟨.us (.ext (.flat (.rw 109 [true,false,false,false] (stO L L.length)))),true⟩]))),(100013,mapG (modAt wkE 1) (⟨Try.prog,[(58,ctrF Id' C_dblocks hardD)],[],dkHo,Id'.one,60⟩:Sy Td) 46 (regO 13 (bodyOf Try.f61)) (drwR 13 (bodyOf Try.f61)))] Try.f61 [.one (.obj 0)] [⟨.us (.ext (.shr 1 L.length (tbE L))),false⟩]).al [true])=some qs∧∀ q∈qs,q:=
 ⟨[Value.int IntKind.i64 (↑L.length:Int)=Value.int IntKind.i64 (↑L.length:Int),Th.ext (Dk.shr 1 L.length (tbE L))=Th.ext (Dk.shr 1 L.length (tbE L)),∀ (w:World),Id'.holds (Th.ext (Dk.flat (FL.rw 109 [true,false,false,false] (stO L 0)))) w nilV∧∀ (j:Nat),¬Id'.foot (Th.ext (Dk.flat (FL.rw 109 [true,false,false,false] (stO L 0)))) w nilV j,Value.int IntKind.i64 (Int.ofNat 0)=Value.int IntKind.i64 (Int.ofNat (0:Nat)),(stO L L.length).length≤(1000:Nat),(dbE (stO L L.length) != (0:Int))=true,(dbE (stO L L.length) != (0:Int))=true,Th.ext (Dk.shr 1 L.length (tbE L))=Th.ext (Dk.shr 1 L.length (tbE L)),∀ (w:World),Id'.holds (Th.ext (Dk.vw [true,false,false,false] [])) w nilV∧∀ (j:Nat),¬Id'.foot (Th.ext (Dk.vw [true,false,false,false] [])) w nilV j,Value.int IntKind.i64 (Int.ofNat 4)=Value.int IntKind.i64 (Int.ofNat 4)],by kernel_rfl,(by refine mcons ?_ (mcons ?_ (mcons ?_ (mcons ?_ (mcons ?_ (mcons ?_ (mcons ?_ (mcons ?_ (mcons ?_ (mcons ?_ mnil)))))))))<;>first|rfl|exact h0|exact h1|exact h2|trivial|(exact rwNil _ _)|(exact vwNil)|(exact ⟨rfl,rfl,rfl⟩))⟩
set_option maxRecDepth 100000 in
theorem dentB_w0 (L:List (List UInt8)) (h0:((stO L L.length)).length≤(1000:Nat)) (h1:(dbB (stO L L.length)).length≤(100000:Nat)) (h2:(dbE (stO L L.length) != (0:Int))=false) (h3:(!decide (dbB (stO L L.length)=L))=true):∃ qs,wayO Id' ([⟨.us (.ext (.shr 1 L.length (tbE L))),false⟩]:Mem Td).length [⟨.us (.ext (.shr 1 L.length (tbE L))),false⟩,⟨.us (.ext (.vw [true,false,false,false] ([]:List Rw))),false⟩] (.tup [.one (.obj 1),.one (.v (.int .i64 4))]) ((runFn (⟨Try.prog,[(58,ctrF Id' C_dblocks hardD),(126,ctrF Id' (wkC (C_eqf (dbB (stO L L.length)) L)) hardD)],[],dkHo,Id'.one,60⟩:Sy Td) [(3,(lpG Id' 46 (hdC (loopsC (bodyOf Try.f61)) 0) 1 [(13,.c (.one (.v (.int .i64 ((0:Nat):Int))))),(4,.c (.one (.obj 1)))] [(0,.c (.one (.obj 0))),(11,.c (.one (.obj 0))),(12,.c (.one (.v (.int .i64 (L.length:Int)))))] [⟨.us (.ext (.shr 1 L.length (tbE L))),false⟩,⟨.us (.ext (.flat (.rw 109 [true,false,false,false] (stO L 0)))),true⟩] (.leaf (.exit 0) [(4,.c (.one (.obj 1)))] [⟨.us (.ext (.shr 1 L.length (tbE L))),false⟩,⟨.us (.ext (.flat (.rw 109 [true,false,false,false] (stO L L.length)))),true⟩]))),(100013,mapG (modAt wkE 1) (⟨Try.prog,[(58,ctrF Id' C_dblocks hardD)],[],dkHo,Id'.one,60⟩:Sy Td) 46 (regO 13 (bodyOf Try.f61)) (drwR 13 (bodyOf Try.f61)))] Try.f61 [.one (.obj 0)] [⟨.us (.ext (.shr 1 L.length (tbE L))),false⟩]).al [false,true])=some qs∧∀ q∈qs,q:=
 ⟨[Value.int IntKind.i64 (↑L.length:Int)=Value.int IntKind.i64 (↑L.length:Int),Th.ext (Dk.shr 1 L.length (tbE L))=Th.ext (Dk.shr 1 L.length (tbE L)),∀ (w:World),Id'.holds (Th.ext (Dk.flat (FL.rw 109 [true,false,false,false] (stO L 0)))) w nilV∧∀ (j:Nat),¬Id'.foot (Th.ext (Dk.flat (FL.rw 109 [true,false,false,false] (stO L 0)))) w nilV j,Value.int IntKind.i64 (Int.ofNat 0)=Value.int IntKind.i64 (Int.ofNat (0:Nat)),(stO L L.length).length≤(1000:Nat),(dbE (stO L L.length) != (0:Int))=false,(1:Nat)=(1:Nat)∧(dbB (stO L L.length)).length=(dbB (stO L L.length)).length∧tbE (dbB (stO L L.length))=tbE (dbB (stO L L.length)),(1:Nat)=(1:Nat)∧L.length=L.length∧tbE L=tbE L,(dbB (stO L L.length)).length≤(100000:Nat),(dbE (stO L L.length) != (0:Int))=false,(!decide (dbB (stO L L.length)=L))=true,Th.ext (Dk.shr 1 L.length (tbE L))=Th.ext (Dk.shr 1 L.length (tbE L)),∀ (w:World),Id'.holds (Th.ext (Dk.vw [true,false,false,false] [])) w nilV∧∀ (j:Nat),¬Id'.foot (Th.ext (Dk.vw [true,false,false,false] [])) w nilV j,Value.int IntKind.i64 (Int.ofNat 4)=Value.int IntKind.i64 (Int.ofNat 4)],by kernel_rfl,(by refine mcons ?_ (mcons ?_ (mcons ?_ (mcons ?_ (mcons ?_ (mcons ?_ (mcons ?_ (mcons ?_ (mcons ?_ (mcons ?_ (mcons ?_ (mcons ?_ (mcons ?_ (mcons ?_ mnil)))))))))))))<;>first|rfl|exact h0|exact h1|exact h2|exact h3|trivial|(exact rwNil _ _)|(exact vwNil)|(exact ⟨rfl,rfl,rfl⟩))⟩
set_option maxRecDepth 100000 in
theorem dentC_w0 (L:List (List UInt8)) (h0:((stO L L.length)).length≤(1000:Nat)) (h1:(dbB (stO L L.length)).length≤(100000:Nat)) (h2:(dbE (stO L L.length) != (0:Int))=false) (h3:(!decide (dbB (stO L L.length)=L))=false):∃ qs,wayO Id' ([⟨.us (.ext (.shr 1 L.length (tbE L))),false⟩]:Mem Td).length [⟨.us (.ext (.shr 1 L.length (tbE L))),false⟩,⟨.us (.ext (.vw [true,false,false,false] (stO L L.length))),false⟩] (.tup [.one (.obj 1),.one (.v (.int .i64 0))]) ((runFn (⟨Try.prog,[(58,ctrF Id' C_dblocks hardD),(126,ctrF Id' (wkC (C_eqf (dbB (stO L L.length)) L)) hardD)],[],dkHo,Id'.one,60⟩:Sy Td) [(3,(lpG Id' 46 (hdC (loopsC (bodyOf Try.f61)) 0) 1 [(13,.c (.one (.v (.int .i64 ((0:Nat):Int))))),(4,.c (.one (.obj 1)))] [(0,.c (.one (.obj 0))),(11,.c (.one (.obj 0))),(12,.c (.one (.v (.int .i64 (L.length:Int)))))] [⟨.us (.ext (.shr 1 L.length (tbE L))),false⟩,⟨.us (.ext (.flat (.rw 109 [true,false,false,false] (stO L 0)))),true⟩] (.leaf (.exit 0) [(4,.c (.one (.obj 1)))] [⟨.us (.ext (.shr 1 L.length (tbE L))),false⟩,⟨.us (.ext (.flat (.rw 109 [true,false,false,false] (stO L L.length)))),true⟩]))),(100013,mapG (modAt wkE 1) (⟨Try.prog,[(58,ctrF Id' C_dblocks hardD)],[],dkHo,Id'.one,60⟩:Sy Td) 46 (regO 13 (bodyOf Try.f61)) (drwR 13 (bodyOf Try.f61)))] Try.f61 [.one (.obj 0)] [⟨.us (.ext (.shr 1 L.length (tbE L))),false⟩]).al [false,false])=some qs∧∀ q∈qs,q:=
 ⟨[Value.int IntKind.i64 (↑L.length:Int)=Value.int IntKind.i64 (↑L.length:Int),Th.ext (Dk.shr 1 L.length (tbE L))=Th.ext (Dk.shr 1 L.length (tbE L)),∀ (w:World),Id'.holds (Th.ext (Dk.flat (FL.rw 109 [true,false,false,false] (stO L 0)))) w nilV∧∀ (j:Nat),¬Id'.foot (Th.ext (Dk.flat (FL.rw 109 [true,false,false,false] (stO L 0)))) w nilV j,Value.int IntKind.i64 (Int.ofNat 0)=Value.int IntKind.i64 (Int.ofNat (0:Nat)),(stO L L.length).length≤(1000:Nat),(dbE (stO L L.length) != (0:Int))=false,(1:Nat)=(1:Nat)∧(dbB (stO L L.length)).length=(dbB (stO L L.length)).length∧tbE (dbB (stO L L.length))=tbE (dbB (stO L L.length)),(1:Nat)=(1:Nat)∧L.length=L.length∧tbE L=tbE L,(dbB (stO L L.length)).length≤(100000:Nat),(dbE (stO L L.length) != (0:Int))=false,(!decide (dbB (stO L L.length)=L))=false,Th.ext (Dk.shr 1 L.length (tbE L))=Th.ext (Dk.shr 1 L.length (tbE L)),Th.ext (Dk.vw [true,false,false,false] (Nat.brecOn.go L.length (stO._f L)).1)=Th.ext (Dk.vw [true,false,false,false] (Nat.brecOn.go L.length (stO._f L)).1),Value.int IntKind.i64 (Int.ofNat 0)=Value.int IntKind.i64 (Int.ofNat 0)],by kernel_rfl,(by refine mcons ?_ (mcons ?_ (mcons ?_ (mcons ?_ (mcons ?_ (mcons ?_ (mcons ?_ (mcons ?_ (mcons ?_ (mcons ?_ (mcons ?_ (mcons ?_ (mcons ?_ (mcons ?_ mnil)))))))))))))<;>first|rfl|exact h0|exact h1|exact h2|exact h3|trivial|(exact rwNil _ _)|(exact vwNil)|(exact ⟨rfl,rfl,rfl⟩))⟩
def deOk (L:List (List UInt8)):Bool:=dbE (stO L L.length)==0&&decide (dbB (stO L L.length)=L)
def deE (L:List (List UInt8)):Int:=bif deOk L then 0 else 4
def deR (L:List (List UInt8)):List Rw:=bif deOk L then (stO L L.length) else []
def C_dents (L:List (List UInt8)):Ctr Td:=fun us sub=>match us,sub with
 |[.one (.obj 0)],[⟨.us (.ext (.shr sz n el)),false⟩]=>some ([sz=1∧n=L.length∧el=tbE L,L.length≤100∧∀ l∈L,l.length≤140737488355328],.tup [.one (.obj 1),.one (.v (.int .i64 (deE L)))],[⟨.us (.ext (.shr sz n el)),false⟩,⟨.us (.ext (.vw [true,false,false,false] (deR L))),false⟩])
 |_,_=>none
theorem blksP_n (R:List Rw) (k:Nat):(blksP R k).length=k:=blksP_len R k
theorem dbB_len (R:List Rw):(dbB R).length≤R.length+1:=by
 unfold dbB
 cases (okP R&&!decide ((R.length:Int)>24)) with
 |false=>exact Nat.zero_le _
 |true=>
  show (blksP R (nbR R)).length≤_
  rw [blksP_n]
  unfold nbR;omega
set_option maxRecDepth 100000 in
theorem C_dents_ok (L:List (List UInt8)):CtrOk Try.prog Id' 61 (C_dents L):=by
 intro us sub ps x sm h hp w e vs hM ha
 unfold C_dents at h
 split at h
 ·rename_i sz n el
  simp only [Option.some.injEq,Prod.mk.injEq] at h
  obtain ⟨rfl,rfl,rfl⟩:=h
  obtain ⟨rfl,rfl,rfl⟩:=hp _ (List.mem_cons_self ..)
  obtain ⟨hL,hw⟩:=hp _ (List.mem_cons_of_mem _ (List.mem_cons_self ..))
  have hs:=stO_len L L.length
  have hb:=dbB_len (stO L L.length)
  cases q1:(dbE (stO L L.length) != (0:Int)) with
  |true=>
   have ho:deOk L=false:=by
    unfold deOk
    rw [bne_iff_ne] at q1
    rw [show (dbE (stO L L.length)==0)=false from by simpa using q1,Bool.false_and]
   unfold deE deR
   rw [ho]
   exact ctr_way (I:=Id') (fun (W0:World) (G:Nat→Prop)=>SyOk.mk2 Try.mixed dkHo_ok (FnsR.cons (R_dblocks) (FnsR.cons ((R_eqf (dbB (stO L L.length)) L)) (FnsR.nil))) EqsOk.nil) rfl Try.func61 (by kernel_rfl) (fun W0 G=>LpsOk.cons (by kernel_rfl) (eou_lp L (by omega) hw _ rfl) (LpsOk.cons (by kernel_rfl) (mapG_sound (id:=13) ((fun (W0:World) (G:Nat→Prop)=>SyOk.mk2 Try.mixed dkHo_ok (FnsR.cons (R_dblocks) (FnsR.nil)) EqsOk.nil) W0 G) rfl (fun w e mem h=>wk_ok (W0:=W0) (G:=G) 1 w e mem h)) (LpsOk.nil _))) (cs:=[true]) (by kernel_rfl) (dentA_w0 L (by omega) (by omega) q1) w e vs hM ha
  |false=>
   have q1':(dbE (stO L L.length)==0)=true:=by simpa using q1
   cases q2:(!decide (dbB (stO L L.length)=L)) with
   |true=>
    have ho:deOk L=false:=by
     unfold deOk
     rw [show decide (dbB (stO L L.length)=L)=false from by simpa using q2,Bool.and_false]
    unfold deE deR
    rw [ho]
    exact ctr_way (I:=Id') (fun (W0:World) (G:Nat→Prop)=>SyOk.mk2 Try.mixed dkHo_ok (FnsR.cons (R_dblocks) (FnsR.cons ((R_eqf (dbB (stO L L.length)) L)) (FnsR.nil))) EqsOk.nil) rfl Try.func61 (by kernel_rfl) (fun W0 G=>LpsOk.cons (by kernel_rfl) (eou_lp L (by omega) hw _ rfl) (LpsOk.cons (by kernel_rfl) (mapG_sound (id:=13) ((fun (W0:World) (G:Nat→Prop)=>SyOk.mk2 Try.mixed dkHo_ok (FnsR.cons (R_dblocks) (FnsR.nil)) EqsOk.nil) W0 G) rfl (fun w e mem h=>wk_ok (W0:=W0) (G:=G) 1 w e mem h)) (LpsOk.nil _))) (cs:=[false,true]) (by kernel_rfl) (dentB_w0 L (by omega) (by omega) q1 q2) w e vs hM ha
   |false=>
    have ho:deOk L=true:=by
     unfold deOk
     rw [q1',show decide (dbB (stO L L.length)=L)=true from by simpa using q2];rfl
    unfold deE deR
    rw [ho]
    exact ctr_way (I:=Id') (fun (W0:World) (G:Nat→Prop)=>SyOk.mk2 Try.mixed dkHo_ok (FnsR.cons (R_dblocks) (FnsR.cons ((R_eqf (dbB (stO L L.length)) L)) (FnsR.nil))) EqsOk.nil) rfl Try.func61 (by kernel_rfl) (fun W0 G=>LpsOk.cons (by kernel_rfl) (eou_lp L (by omega) hw _ rfl) (LpsOk.cons (by kernel_rfl) (mapG_sound (id:=13) ((fun (W0:World) (G:Nat→Prop)=>SyOk.mk2 Try.mixed dkHo_ok (FnsR.cons (R_dblocks) (FnsR.nil)) EqsOk.nil) W0 G) rfl (fun w e mem h=>wk_ok (W0:=W0) (G:=G) 1 w e mem h)) (LpsOk.nil _))) (cs:=[false,false]) (by kernel_rfl) (dentC_w0 L (by omega) (by omega) q1 q2) w e vs hM ha
 ·cases h
end Go.Proofs.Ytdenmoiaiemokaa
