/- W6 W7 W8. -/
import Derived.Test.YtdenmoiaiemokaaW5p
set_option linter.unusedVariables false
set_option linter.unusedSimpArgs false
namespace Go.Proofs.Ytdenmoiaiemokaa
open Go.RowKit
def ltS (a b:ByteArray):Bool:=Op.bytesLess a.toList b.toList
def nmE (r:Rw):ByteArray:=r.ss.getD 0 ⟨#[]⟩
def pwS (D:List Rw) (nm:ByteArray) (a b c:Int):Nat→List Rw×Bool
 |0=>([],false)
 |k+1=>bif !(pwS D nm a b c k).2&&ltS nm (nmE (D.getD k Rw.zero)) then ((pwS D nm a b c k).1++[⟨[a,b,c],[nm]⟩]++[nrm4 (D.getD k Rw.zero)],true) else ((pwS D nm a b c k).1++[nrm4 (D.getD k Rw.zero)],(pwS D nm a b c k).2)
def pwR (R:List Rw) (nm:ByteArray) (a b c:Int):List Rw:=bif (pwS (dropR R nm R.length) nm a b c (dropR R nm R.length).length).2 then (pwS (dropR R nm R.length) nm a b c (dropR R nm R.length).length).1 else (pwS (dropR R nm R.length) nm a b c (dropR R nm R.length).length).1++[⟨[a,b,c],[nm]⟩]
theorem pwS_len (D:List Rw) (nm:ByteArray) (a b c:Int):∀ k,(pwS D nm a b c k).1.length≤2 * k
 |0=>Nat.le_refl _
 |k+1=>by
  have:=pwS_len D nm a b c k
  simp only [pwS]
  cases (!(pwS D nm a b c k).2&&ltS nm (nmE (D.getD k Rw.zero)))<;>simp<;>omega
set_option maxRecDepth 100000 in
theorem rput_n1 (R D X Y:List Rw) (nm:ByteArray) (a b c:Int) (dn dm:Bool) (k:Nat) (f:Nat→Value) (h0:decide ((k:Int)<(D.length:Int))=true) (h1:IntKind.i64.wrap ((k:Int)+1)=((k+1:Nat):Int)) (h2:k<D.length) (h3:(!dn&&ltS nm (nmE (D.getD ((k:Int).toNat) Rw.zero)))=true) (h4:X++[⟨[a,b,c],[nm]⟩]++[nrm4 (D.getD ((k:Int).toNat) Rw.zero)]=Y) (h5:X.length+2≤100000) (h6:true=dm):∃ qs,alN Id' 3 [(7,.c (.one (.v (.int .i64 ((k+1:Nat):Int))))),(5,.c (.one (.obj 3))),(6,.c (.one (.v (.bool dm))))] [⟨.us (.ext (.vw [true,false,false,false] R)),false⟩,⟨.blk [.v (.string nm),.v (.int .i64 a),.v (.int .i64 b),.v (.int .i64 c)],true⟩,⟨.us (.ext (.flat (.rw 109 [true,false,false,false] D))),true⟩,⟨.us (.ext (.flat (.rw 109 [true,false,false,false] Y))),true⟩] ((symC (⟨Try.prog,[(69,ctrF Id' C_rdrop hardD)],[],dkHo,Id'.one,60⟩:Sy Td) [] 48 (hdC (loopsC (bodyOf Try.f65)) 0) ⟨[(7,.c (.one (.v (.int .i64 (k:Int))))),(5,.c (.one (.obj 3))),(6,.c (.one (.v (.bool dn))))]++anyB' (writesC (hdC (loopsC (bodyOf Try.f65)) 0)) ([(0,.c (.one (.obj 2))),(3,.c (.one (.ptr 1 0)))]++tabV f 48),[⟨.us (.ext (.vw [true,false,false,false] R)),false⟩,⟨.blk [.v (.string nm),.v (.int .i64 a),.v (.int .i64 b),.v (.int .i64 c)],true⟩,⟨.us (.ext (.flat (.rw 109 [true,false,false,false] D))),true⟩,⟨.us (.ext (.flat (.rw 109 [true,false,false,false] X))),true⟩],0⟩).al [true,true])=some qs∧∀ q∈qs,q:=
 ⟨[decide ((↑k:Int)<(↑(FL.rw (109:TypeId) [true,false,false,false] D).n:Int))=true,(!dn&&true)=true→(0:Int)≤(↑k:Int)∧(↑k:Int).toNat<(FL.rw (109:TypeId) [true,false,false,false] D).n,(!dn&&Op.bytesLess nm.toList ((D.getD (↑k:Int).toNat Rw.zero).ss.getD (0:Nat) (ByteArray.mk #[])).toList)=true,X.length+[Rw.mk [a,b,c] [nm]].length≤(100000:Nat),(X++[Rw.mk [a,b,c] [nm]]).length+[Rw.mk [(D.getD (↑k:Int).toNat Rw.zero).is.getD (0:Nat) (0:Int),(D.getD (↑k:Int).toNat Rw.zero).is.getD ((0:Nat)+(1:Nat)) (0:Int),(D.getD (↑k:Int).toNat Rw.zero).is.getD ((0:Nat)+(1:Nat)+(1:Nat)) (0:Int)] [(D.getD (↑k:Int).toNat Rw.zero).ss.getD (0:Nat) (ByteArray.mk #[])]].length≤(100000:Nat),(0:Int)≤(↑k:Int)∧(↑k:Int).toNat<(FL.rw (109:TypeId) [true,false,false,false] D).n,Th.ext (Dk.vw [true,false,false,false] R)=Th.ext (Dk.vw [true,false,false,false] R),Value.string nm=Value.string nm,Value.int IntKind.i64 a=Value.int IntKind.i64 a,Value.int IntKind.i64 b=Value.int IntKind.i64 b,Value.int IntKind.i64 c=Value.int IntKind.i64 c,Th.ext (Dk.flat (FL.rw 109 [true,false,false,false] D))=Th.ext (Dk.flat (FL.rw 109 [true,false,false,false] D)),Th.ext (Dk.flat (FL.rw 109 [true,false,false,false] ((X++[Rw.mk [a,b,c] [nm]])++[Rw.mk [(D.getD (↑k:Int).toNat Rw.zero).is.getD (0:Nat) (0:Int),(D.getD (↑k:Int).toNat Rw.zero).is.getD ((0:Nat)+(1:Nat)) (0:Int),(D.getD (↑k:Int).toNat Rw.zero).is.getD ((0:Nat)+(1:Nat)+(1:Nat)) (0:Int)] [(D.getD (↑k:Int).toNat Rw.zero).ss.getD (0:Nat) (ByteArray.mk #[])]])))=Th.ext (Dk.flat (FL.rw 109 [true,false,false,false] Y)),Value.int IntKind.i64 (IntKind.i64.wrap ((↑k:Int)+(1:Int)))=Value.int IntKind.i64 (↑(k+(1:Nat)):Int),Value.bool true=Value.bool dm],by kernel_rfl,(by refine mcons ?_ (mcons ?_ (mcons ?_ (mcons ?_ (mcons ?_ (mcons ?_ (mcons ?_ (mcons ?_ (mcons ?_ (mcons ?_ (mcons ?_ (mcons ?_ (mcons ?_ (mcons ?_ (mcons ?_ mnil))))))))))))))<;>first|rfl|exact h0|exact h1|exact h2|exact h3|exact h4|exact h5|exact h6|trivial|(exact ⟨by omega,by show (k:Int).toNat<D.length;omega⟩)|(exact fun _=>⟨by omega,by show (k:Int).toNat<D.length;omega⟩)|(exact congrArg _ h1)|(exact congrArg (fun x=>Th.ext (Dk.flat (FL.rw 109 [true,false,false,false] x))) h4)|(exact h5)|(exact congrArg _ h6)|(have:=h5;simp only [List.length_append,List.length_cons,List.length_nil];omega)|(have:=h5;show X.length+1≤_;omega))⟩
set_option maxRecDepth 100000 in
theorem rput_n2 (R D X Y:List Rw) (nm:ByteArray) (a b c:Int) (dn dm:Bool) (k:Nat) (f:Nat→Value) (h0:decide ((k:Int)<(D.length:Int))=true) (h1:IntKind.i64.wrap ((k:Int)+1)=((k+1:Nat):Int)) (h2:k<D.length) (h3:(!dn&&ltS nm (nmE (D.getD ((k:Int).toNat) Rw.zero)))=false) (h4:X++[nrm4 (D.getD ((k:Int).toNat) Rw.zero)]=Y) (h5:X.length+2≤100000) (h6:dn=dm):∃ qs,alN Id' 3 [(7,.c (.one (.v (.int .i64 ((k+1:Nat):Int))))),(5,.c (.one (.obj 3))),(6,.c (.one (.v (.bool dm))))] [⟨.us (.ext (.vw [true,false,false,false] R)),false⟩,⟨.blk [.v (.string nm),.v (.int .i64 a),.v (.int .i64 b),.v (.int .i64 c)],true⟩,⟨.us (.ext (.flat (.rw 109 [true,false,false,false] D))),true⟩,⟨.us (.ext (.flat (.rw 109 [true,false,false,false] Y))),true⟩] ((symC (⟨Try.prog,[(69,ctrF Id' C_rdrop hardD)],[],dkHo,Id'.one,60⟩:Sy Td) [] 48 (hdC (loopsC (bodyOf Try.f65)) 0) ⟨[(7,.c (.one (.v (.int .i64 (k:Int))))),(5,.c (.one (.obj 3))),(6,.c (.one (.v (.bool dn))))]++anyB' (writesC (hdC (loopsC (bodyOf Try.f65)) 0)) ([(0,.c (.one (.obj 2))),(3,.c (.one (.ptr 1 0)))]++tabV f 48),[⟨.us (.ext (.vw [true,false,false,false] R)),false⟩,⟨.blk [.v (.string nm),.v (.int .i64 a),.v (.int .i64 b),.v (.int .i64 c)],true⟩,⟨.us (.ext (.flat (.rw 109 [true,false,false,false] D))),true⟩,⟨.us (.ext (.flat (.rw 109 [true,false,false,false] X))),true⟩],0⟩).al [true,false])=some qs∧∀ q∈qs,q:=
 ⟨[decide ((↑k:Int)<(↑(FL.rw (109:TypeId) [true,false,false,false] D).n:Int))=true,(!dn&&true)=true→(0:Int)≤(↑k:Int)∧(↑k:Int).toNat<(FL.rw (109:TypeId) [true,false,false,false] D).n,(!dn&&Op.bytesLess nm.toList ((D.getD (↑k:Int).toNat Rw.zero).ss.getD (0:Nat) (ByteArray.mk #[])).toList)=false,X.length+[Rw.mk [(D.getD (↑k:Int).toNat Rw.zero).is.getD (0:Nat) (0:Int),(D.getD (↑k:Int).toNat Rw.zero).is.getD ((0:Nat)+(1:Nat)) (0:Int),(D.getD (↑k:Int).toNat Rw.zero).is.getD ((0:Nat)+(1:Nat)+(1:Nat)) (0:Int)] [(D.getD (↑k:Int).toNat Rw.zero).ss.getD (0:Nat) (ByteArray.mk #[])]].length≤(100000:Nat),(0:Int)≤(↑k:Int)∧(↑k:Int).toNat<(FL.rw (109:TypeId) [true,false,false,false] D).n,Th.ext (Dk.vw [true,false,false,false] R)=Th.ext (Dk.vw [true,false,false,false] R),Value.string nm=Value.string nm,Value.int IntKind.i64 a=Value.int IntKind.i64 a,Value.int IntKind.i64 b=Value.int IntKind.i64 b,Value.int IntKind.i64 c=Value.int IntKind.i64 c,Th.ext (Dk.flat (FL.rw 109 [true,false,false,false] D))=Th.ext (Dk.flat (FL.rw 109 [true,false,false,false] D)),Th.ext (Dk.flat (FL.rw 109 [true,false,false,false] (X++[Rw.mk [(D.getD (↑k:Int).toNat Rw.zero).is.getD (0:Nat) (0:Int),(D.getD (↑k:Int).toNat Rw.zero).is.getD ((0:Nat)+(1:Nat)) (0:Int),(D.getD (↑k:Int).toNat Rw.zero).is.getD ((0:Nat)+(1:Nat)+(1:Nat)) (0:Int)] [(D.getD (↑k:Int).toNat Rw.zero).ss.getD (0:Nat) (ByteArray.mk #[])]])))=Th.ext (Dk.flat (FL.rw 109 [true,false,false,false] Y)),Value.int IntKind.i64 (IntKind.i64.wrap ((↑k:Int)+(1:Int)))=Value.int IntKind.i64 (↑(k+(1:Nat)):Int),Value.bool dn=Value.bool dm],by kernel_rfl,(by refine mcons ?_ (mcons ?_ (mcons ?_ (mcons ?_ (mcons ?_ (mcons ?_ (mcons ?_ (mcons ?_ (mcons ?_ (mcons ?_ (mcons ?_ (mcons ?_ (mcons ?_ (mcons ?_ mnil)))))))))))))<;>first|rfl|exact h0|exact h1|exact h2|exact h3|exact h4|exact h5|exact h6|trivial|(exact ⟨by omega,by show (k:Int).toNat<D.length;omega⟩)|(exact fun _=>⟨by omega,by show (k:Int).toNat<D.length;omega⟩)|(exact congrArg _ h1)|(exact congrArg (fun x=>Th.ext (Dk.flat (FL.rw 109 [true,false,false,false] x))) h4)|(exact h5)|(exact congrArg _ h6)|(have:=h5;simp only [List.length_append,List.length_cons,List.length_nil];omega)|(have:=h5;show X.length+1≤_;omega))⟩
set_option maxRecDepth 100000 in
theorem rput_x (R D X Y:List Rw) (nm:ByteArray) (a b c:Int) (dn dm:Bool) (k:Nat) (f:Nat→Value) (h0:decide ((k:Int)<(D.length:Int))=false) (h1:X=Y) (h2:dn=dm):∃ qs,alX Id' 3 0 [(5,.c (.one (.obj 3))),(6,.c (.one (.v (.bool dm))))] [⟨.us (.ext (.vw [true,false,false,false] R)),false⟩,⟨.blk [.v (.string nm),.v (.int .i64 a),.v (.int .i64 b),.v (.int .i64 c)],true⟩,⟨.us (.ext (.flat (.rw 109 [true,false,false,false] D))),true⟩,⟨.us (.ext (.flat (.rw 109 [true,false,false,false] Y))),true⟩] ((symC (⟨Try.prog,[(69,ctrF Id' C_rdrop hardD)],[],dkHo,Id'.one,60⟩:Sy Td) [] 48 (hdC (loopsC (bodyOf Try.f65)) 0) ⟨[(7,.c (.one (.v (.int .i64 (k:Int))))),(5,.c (.one (.obj 3))),(6,.c (.one (.v (.bool dn))))]++anyB' (writesC (hdC (loopsC (bodyOf Try.f65)) 0)) ([(0,.c (.one (.obj 2))),(3,.c (.one (.ptr 1 0)))]++tabV f 48),[⟨.us (.ext (.vw [true,false,false,false] R)),false⟩,⟨.blk [.v (.string nm),.v (.int .i64 a),.v (.int .i64 b),.v (.int .i64 c)],true⟩,⟨.us (.ext (.flat (.rw 109 [true,false,false,false] D))),true⟩,⟨.us (.ext (.flat (.rw 109 [true,false,false,false] X))),true⟩],0⟩).al [false])=some qs∧∀ q∈qs,q:=
 ⟨[decide ((↑k:Int)<(↑(FL.rw (109:TypeId) [true,false,false,false] D).n:Int))=false,Th.ext (Dk.vw [true,false,false,false] R)=Th.ext (Dk.vw [true,false,false,false] R),Value.string nm=Value.string nm,Value.int IntKind.i64 a=Value.int IntKind.i64 a,Value.int IntKind.i64 b=Value.int IntKind.i64 b,Value.int IntKind.i64 c=Value.int IntKind.i64 c,Th.ext (Dk.flat (FL.rw 109 [true,false,false,false] D))=Th.ext (Dk.flat (FL.rw 109 [true,false,false,false] D)),Th.ext (Dk.flat (FL.rw 109 [true,false,false,false] X))=Th.ext (Dk.flat (FL.rw 109 [true,false,false,false] Y)),Value.bool dn=Value.bool dm],by kernel_rfl,(by refine mcons ?_ (mcons ?_ (mcons ?_ (mcons ?_ (mcons ?_ (mcons ?_ (mcons ?_ (mcons ?_ (mcons ?_ mnil))))))))<;>first|rfl|exact h0|exact h1|exact h2|trivial|(exact congrArg (fun x=>Th.ext (Dk.flat (FL.rw 109 [true,false,false,false] x))) h1)|(exact congrArg _ h2))⟩
set_option maxRecDepth 100000 in
theorem rput_lp (R D:List Rw) (nm:ByteArray) (a b c:Int) (hD:D.length≤10000) {W0:World} {G:Nat→Prop} (S0:Sy Td) (hS0:S0.P=Try.prog):LoopSound S0 Id' W0 G 48 (hdC (loopsC (bodyOf Try.f65)) 0) (lpG Id' 48 (hdC (loopsC (bodyOf Try.f65)) 0) 3 [(7,.c (.one (.v (.int .i64 ((0:Nat):Int))))),(5,.c (.one (.obj 3))),(6,.c (.one (.v (.bool (pwS D nm a b c 0).2))))] [(0,.c (.one (.obj 2))),(3,.c (.one (.ptr 1 0)))] [⟨.us (.ext (.vw [true,false,false,false] R)),false⟩,⟨.blk [.v (.string nm),.v (.int .i64 a),.v (.int .i64 b),.v (.int .i64 c)],true⟩,⟨.us (.ext (.flat (.rw 109 [true,false,false,false] D))),true⟩,⟨.us (.ext (.flat (.rw 109 [true,false,false,false] (pwS D nm a b c 0).1))),true⟩] (.leaf (.exit 0) [(5,.c (.one (.obj 3))),(6,.c (.one (.v (.bool (pwS D nm a b c D.length).2))))] [⟨.us (.ext (.vw [true,false,false,false] R)),false⟩,⟨.blk [.v (.string nm),.v (.int .i64 a),.v (.int .i64 b),.v (.int .i64 c)],true⟩,⟨.us (.ext (.flat (.rw 109 [true,false,false,false] D))),true⟩,⟨.us (.ext (.flat (.rw 109 [true,false,false,false] (pwS D nm a b c D.length).1))),true⟩])):=by
 refine lp_sound (V:=fun k=>[(7,.c (.one (.v (.int .i64 (k:Int))))),(5,.c (.one (.obj 3))),(6,.c (.one (.v (.bool (pwS D nm a b c k).2))))]) (M:=(fun k=>[⟨.us (.ext (.vw [true,false,false,false] R)),false⟩,⟨.blk [.v (.string nm),.v (.int .i64 a),.v (.int .i64 b),.v (.int .i64 c)],true⟩,⟨.us (.ext (.flat (.rw 109 [true,false,false,false] D))),true⟩,⟨.us (.ext (.flat (.rw 109 [true,false,false,false] (pwS D nm a b c k).1))),true⟩]:Nat→Mem Td)) (N:=D.length) (Ux:=fun k x=>match x with|.exit 0=>some ([(5,.c (.one (.obj 3))),(6,.c (.one (.v (.bool (pwS D nm a b c D.length).2))))],([⟨.us (.ext (.vw [true,false,false,false] R)),false⟩,⟨.blk [.v (.string nm),.v (.int .i64 a),.v (.int .i64 b),.v (.int .i64 c)],true⟩,⟨.us (.ext (.flat (.rw 109 [true,false,false,false] D))),true⟩,⟨.us (.ext (.flat (.rw 109 [true,false,false,false] (pwS D nm a b c D.length).1))),true⟩]:Mem Td))|_=>none) (X:=fun _ _=>True) (J:=fun _=>True) (fun k=>by kernel_rfl) trivial (fun k hk hJ f=>?_) (fun K hK k x U hk hU hX=>?_)
 ·rw [hS0]
  cases hc:decide ((k:Int)<(D.length:Int)) with
  |false=>
   have hke:k=D.length:=by have:=of_decide_eq_false hc;omega
   exact rnd_xD (⟨Try.prog,[(69,ctrF Id' C_rdrop hardD)],[],dkHo,Id'.one,60⟩:Sy Td) rfl ((fun (W0:World) (G:Nat→Prop)=>SyOk.mk2 Try.mixed dkHo_ok (FnsR.cons (R_rdrop) (FnsR.nil)) EqsOk.nil) W0 G) (rput_x R D (pwS D nm a b c k).1 (pwS D nm a b c D.length).1 nm a b c (pwS D nm a b c k).2 (pwS D nm a b c D.length).2 k f hc (by rw [hke]) (by rw [hke])) rfl  trivial
  |true=>
   have hk1:k<D.length:=by have:=of_decide_eq_true hc;omega
   have hW:IntKind.i64.wrap ((k:Int)+1)=((k+1:Nat):Int):=by rw [IntWalk.i64_in _ (by omega)];omega
   have hl:=pwS_len D nm a b c k
   cases hq:(!(pwS D nm a b c k).2&&ltS nm (nmE (D.getD ((k:Int).toNat) Rw.zero))) with
   |true=>
    have hs:pwS D nm a b c (k+1)=((pwS D nm a b c k).1++[⟨[a,b,c],[nm]⟩]++[nrm4 (D.getD k Rw.zero)],true):=by
     rw [Int.toNat_natCast] at hq
     show (bif !(pwS D nm a b c k).2&&ltS nm (nmE (D.getD k Rw.zero)) then _ else _)=_
     rw [hq];rfl
    exact rnd_nD (⟨Try.prog,[(69,ctrF Id' C_rdrop hardD)],[],dkHo,Id'.one,60⟩:Sy Td) rfl ((fun (W0:World) (G:Nat→Prop)=>SyOk.mk2 Try.mixed dkHo_ok (FnsR.cons (R_rdrop) (FnsR.nil)) EqsOk.nil) W0 G) (rput_n1 R D (pwS D nm a b c k).1 (pwS D nm a b c (k+1)).1 nm a b c (pwS D nm a b c k).2 (pwS D nm a b c (k+1)).2 k f hc hW hk1 hq (by rw [hs];rfl) (by omega) (by rw [hs])) rfl  rfl (by omega) trivial
   |false=>
    have hs:pwS D nm a b c (k+1)=((pwS D nm a b c k).1++[nrm4 (D.getD k Rw.zero)],(pwS D nm a b c k).2):=by
     rw [Int.toNat_natCast] at hq
     show (bif !(pwS D nm a b c k).2&&ltS nm (nmE (D.getD k Rw.zero)) then _ else _)=_
     rw [hq];rfl
    exact rnd_nD (⟨Try.prog,[(69,ctrF Id' C_rdrop hardD)],[],dkHo,Id'.one,60⟩:Sy Td) rfl ((fun (W0:World) (G:Nat→Prop)=>SyOk.mk2 Try.mixed dkHo_ok (FnsR.cons (R_rdrop) (FnsR.nil)) EqsOk.nil) W0 G) (rput_n2 R D (pwS D nm a b c k).1 (pwS D nm a b c (k+1)).1 nm a b c (pwS D nm a b c k).2 (pwS D nm a b c (k+1)).2 k f hc hW hk1 hq (by rw [hs];rfl) (by omega) (by rw [hs])) rfl  rfl (by omega) trivial
 ·revert hU
  match x with
  |.exit 0=>intro hU;simp only [Option.some.injEq] at hU;subst hU;exact hK
  |.normal=>intro hU;cases hU
  |.ret=>intro hU;cases hU
  |.exit (n+1)=>intro hU;cases hU
end Go.Proofs.Ytdenmoiaiemokaa
set_option linter.unusedVariables false
set_option linter.unusedSimpArgs false
namespace Go.Proofs.Ytdenmoiaiemokaa
open Go.RowKit
set_option maxRecDepth 100000 in
theorem rput_w0 (R Y:List Rw) (nm:ByteArray) (a b c:Int) (h0:R.length≤100000) (h1:(!(pwS (dropR R nm R.length) nm a b c (dropR R nm R.length).length).2)=false) (h2:(pwS (dropR R nm R.length) nm a b c (dropR R nm R.length).length).1=Y):∃ qs,wayO Id' ([⟨.us (.ext (.vw [true,false,false,false] R)),false⟩]:Mem Td).length [⟨.us (.ext (.vw [true,false,false,false] R)),false⟩,⟨.dead,true⟩,⟨.dead,true⟩,⟨.us (.ext (.flat (.rw 109 [true,false,false,false] Y))),true⟩] (.c (.one (.obj 3))) ((runFn (⟨Try.prog,[(69,ctrF Id' C_rdrop hardD)],[],dkHo,Id'.one,60⟩:Sy Td) [(5,(lpG Id' 48 (hdC (loopsC (bodyOf Try.f65)) 0) 3 [(7,.c (.one (.v (.int .i64 ((0:Nat):Int))))),(5,.c (.one (.obj 3))),(6,.c (.one (.v (.bool (pwS (dropR R nm R.length) nm a b c 0).2))))] [(0,.c (.one (.obj 2))),(3,.c (.one (.ptr 1 0)))] [⟨.us (.ext (.vw [true,false,false,false] R)),false⟩,⟨.blk [.v (.string nm),.v (.int .i64 a),.v (.int .i64 b),.v (.int .i64 c)],true⟩,⟨.us (.ext (.flat (.rw 109 [true,false,false,false] (dropR R nm R.length)))),true⟩,⟨.us (.ext (.flat (.rw 109 [true,false,false,false] (pwS (dropR R nm R.length) nm a b c 0).1))),true⟩] (.leaf (.exit 0) [(5,.c (.one (.obj 3))),(6,.c (.one (.v (.bool (pwS (dropR R nm R.length) nm a b c (dropR R nm R.length).length).2))))] [⟨.us (.ext (.vw [true,false,false,false] R)),false⟩,⟨.blk [.v (.string nm),.v (.int .i64 a),.v (.int .i64 b),.v (.int .i64 c)],true⟩,⟨.us (.ext (.flat (.rw 109 [true,false,false,false] (dropR R nm R.length)))),true⟩,⟨.us (.ext (.flat (.rw 109 [true,false,false,false] (pwS (dropR R nm R.length) nm a b c (dropR R nm R.length).length).1))),true⟩])))] Try.f65 [.one (.obj 0),.agg [.v (.string nm),.v (.int .i64 a),.v (.int .i64 b),.v (.int .i64 c)]] [⟨.us (.ext (.vw [true,false,false,false] R)),false⟩]).al [false])=some qs∧∀ q∈qs,q:=
 ⟨[R.length≤(100000:Nat),Th.ext (Dk.vw [true,false,false,false] R)=Th.ext (Dk.vw [true,false,false,false] R),Value.string nm=Value.string nm,Value.int IntKind.i64 a=Value.int IntKind.i64 a,Value.int IntKind.i64 b=Value.int IntKind.i64 b,Value.int IntKind.i64 c=Value.int IntKind.i64 c,Th.ext (Dk.flat (FL.rw 109 [true,false,false,false] (Nat.brecOn.go R.length (dropR._f R nm)).1))=Th.ext (Dk.flat (FL.rw 109 [true,false,false,false] (Nat.brecOn.go R.length (dropR._f R nm)).1)),∀ (w:World),Id'.holds (Th.ext (Dk.flat (FL.rw (109:TypeId) [true,false,false,false] (pwS (dropR R nm R.length) nm a b c (0:Nat)).fst))) w nilV∧∀ (j:Nat),¬Id'.foot (Th.ext (Dk.flat (FL.rw (109:TypeId) [true,false,false,false] (pwS (dropR R nm R.length) nm a b c (0:Nat)).fst))) w nilV j,Value.int IntKind.i64 (Int.ofNat 0)=Value.int IntKind.i64 (Int.ofNat (0:Nat)),Value.bool false=Value.bool false,(!(pwS (dropR R nm R.length) nm a b c (dropR R nm R.length).length).snd)=false,Th.ext (Dk.vw [true,false,false,false] R)=Th.ext (Dk.vw [true,false,false,false] R),Th.ext (Dk.flat (FL.rw 109 [true,false,false,false] (pwS (dropR R nm R.length) nm a b c (dropR R nm R.length).length).1))=Th.ext (Dk.flat (FL.rw 109 [true,false,false,false] Y))],by kernel_rfl,(by refine mcons ?_ (mcons ?_ (mcons ?_ (mcons ?_ (mcons ?_ (mcons ?_ (mcons ?_ (mcons ?_ (mcons ?_ (mcons ?_ (mcons ?_ (mcons ?_ (mcons ?_ mnil))))))))))))<;>first|rfl|exact h0|exact h1|exact h2|trivial|(exact nil_rows rfl)|(exact congrArg (fun x=>Th.ext (Dk.flat (FL.rw 109 [true,false,false,false] x))) h2)|(subst h2;kernel_rfl)|(exact h3))⟩
set_option maxRecDepth 100000 in
theorem rput_w1 (R Y:List Rw) (nm:ByteArray) (a b c:Int) (h0:R.length≤100000) (h1:(!(pwS (dropR R nm R.length) nm a b c (dropR R nm R.length).length).2)=true) (h2:(pwS (dropR R nm R.length) nm a b c (dropR R nm R.length).length).1++[⟨[a,b,c],[nm]⟩]=Y) (h3:(pwS (dropR R nm R.length) nm a b c (dropR R nm R.length).length).1.length+1≤100000):∃ qs,wayO Id' ([⟨.us (.ext (.vw [true,false,false,false] R)),false⟩]:Mem Td).length [⟨.us (.ext (.vw [true,false,false,false] R)),false⟩,⟨.dead,true⟩,⟨.dead,true⟩,⟨.us (.ext (.flat (.rw 109 [true,false,false,false] Y))),true⟩] (.c (.one (.obj 3))) ((runFn (⟨Try.prog,[(69,ctrF Id' C_rdrop hardD)],[],dkHo,Id'.one,60⟩:Sy Td) [(5,(lpG Id' 48 (hdC (loopsC (bodyOf Try.f65)) 0) 3 [(7,.c (.one (.v (.int .i64 ((0:Nat):Int))))),(5,.c (.one (.obj 3))),(6,.c (.one (.v (.bool (pwS (dropR R nm R.length) nm a b c 0).2))))] [(0,.c (.one (.obj 2))),(3,.c (.one (.ptr 1 0)))] [⟨.us (.ext (.vw [true,false,false,false] R)),false⟩,⟨.blk [.v (.string nm),.v (.int .i64 a),.v (.int .i64 b),.v (.int .i64 c)],true⟩,⟨.us (.ext (.flat (.rw 109 [true,false,false,false] (dropR R nm R.length)))),true⟩,⟨.us (.ext (.flat (.rw 109 [true,false,false,false] (pwS (dropR R nm R.length) nm a b c 0).1))),true⟩] (.leaf (.exit 0) [(5,.c (.one (.obj 3))),(6,.c (.one (.v (.bool (pwS (dropR R nm R.length) nm a b c (dropR R nm R.length).length).2))))] [⟨.us (.ext (.vw [true,false,false,false] R)),false⟩,⟨.blk [.v (.string nm),.v (.int .i64 a),.v (.int .i64 b),.v (.int .i64 c)],true⟩,⟨.us (.ext (.flat (.rw 109 [true,false,false,false] (dropR R nm R.length)))),true⟩,⟨.us (.ext (.flat (.rw 109 [true,false,false,false] (pwS (dropR R nm R.length) nm a b c (dropR R nm R.length).length).1))),true⟩])))] Try.f65 [.one (.obj 0),.agg [.v (.string nm),.v (.int .i64 a),.v (.int .i64 b),.v (.int .i64 c)]] [⟨.us (.ext (.vw [true,false,false,false] R)),false⟩]).al [true])=some qs∧∀ q∈qs,q:=
 ⟨[R.length≤(100000:Nat),Th.ext (Dk.vw [true,false,false,false] R)=Th.ext (Dk.vw [true,false,false,false] R),Value.string nm=Value.string nm,Value.int IntKind.i64 a=Value.int IntKind.i64 a,Value.int IntKind.i64 b=Value.int IntKind.i64 b,Value.int IntKind.i64 c=Value.int IntKind.i64 c,Th.ext (Dk.flat (FL.rw 109 [true,false,false,false] (Nat.brecOn.go R.length (dropR._f R nm)).1))=Th.ext (Dk.flat (FL.rw 109 [true,false,false,false] (Nat.brecOn.go R.length (dropR._f R nm)).1)),∀ (w:World),Id'.holds (Th.ext (Dk.flat (FL.rw (109:TypeId) [true,false,false,false] (pwS (dropR R nm R.length) nm a b c (0:Nat)).fst))) w nilV∧∀ (j:Nat),¬Id'.foot (Th.ext (Dk.flat (FL.rw (109:TypeId) [true,false,false,false] (pwS (dropR R nm R.length) nm a b c (0:Nat)).fst))) w nilV j,Value.int IntKind.i64 (Int.ofNat 0)=Value.int IntKind.i64 (Int.ofNat (0:Nat)),Value.bool false=Value.bool false,(!(pwS (dropR R nm R.length) nm a b c (dropR R nm R.length).length).snd)=true,(pwS (dropR R nm R.length) nm a b c (dropR R nm R.length).length).fst.length+[Rw.mk [a,b,c] [nm]].length≤(100000:Nat),Th.ext (Dk.vw [true,false,false,false] R)=Th.ext (Dk.vw [true,false,false,false] R),Th.ext (Dk.flat (FL.rw 109 [true,false,false,false] ((List.brecOn.go (motive:=fun x=>List Rw→List Rw) (pwS (dropR R nm R.length) nm a b c (dropR R nm R.length).length).fst List.append._f).1 [Rw.mk [a,b,c] [nm]])))=Th.ext (Dk.flat (FL.rw 109 [true,false,false,false] Y))],by kernel_rfl,(by refine mcons ?_ (mcons ?_ (mcons ?_ (mcons ?_ (mcons ?_ (mcons ?_ (mcons ?_ (mcons ?_ (mcons ?_ (mcons ?_ (mcons ?_ (mcons ?_ (mcons ?_ (mcons ?_ mnil)))))))))))))<;>first|rfl|exact h0|exact h1|exact h2|exact h3|trivial|(exact nil_rows rfl)|(exact congrArg (fun x=>Th.ext (Dk.flat (FL.rw 109 [true,false,false,false] x))) h2)|(subst h2;kernel_rfl)|(exact h3))⟩
def C_rput:Ctr Td:=fun us sub=>match us,sub with
 |[.one (.obj 0),.agg [.v (.string nm),.v (.int .i64 a),.v (.int .i64 b),.v (.int .i64 c)]],[⟨.us (.ext (.vw [true,false,false,false] R)),false⟩]=>some ([R.length≤10000],.c (.one (.obj 3)),[⟨.us (.ext (.vw [true,false,false,false] R)),false⟩,⟨.dead,true⟩,⟨.dead,true⟩,⟨.us (.ext (.flat (.rw 109 [true,false,false,false] (pwR R nm a b c)))),true⟩])
 |_,_=>none
set_option maxRecDepth 100000 in
theorem C_rput_ok:CtrOk Try.prog Id' 65 C_rput:=by
 intro us sub ps x sm h hp w e vs hM ha
 unfold C_rput at h
 split at h
 ·rename_i nm a b c R
  simp only [Option.some.injEq,Prod.mk.injEq] at h
  obtain ⟨rfl,rfl,rfl⟩:=h
  have hR:R.length≤10000:=hp _ (List.mem_cons_self ..)
  have hd:=dropR_len R nm R.length
  have hl:=pwS_len (dropR R nm R.length) nm a b c (dropR R nm R.length).length
  cases hq:(!(pwS (dropR R nm R.length) nm a b c (dropR R nm R.length).length).2) with
  |false=>
   have he:(pwS (dropR R nm R.length) nm a b c (dropR R nm R.length).length).1=pwR R nm a b c:=by
    unfold pwR
    have hq2:(pwS (dropR R nm R.length) nm a b c (dropR R nm R.length).length).2=true:=by simpa using hq
    rw [hq2];rfl
   exact ctr_way (I:=Id') (fun (W0:World) (G:Nat→Prop)=>SyOk.mk2 Try.mixed dkHo_ok (FnsR.cons (R_rdrop) (FnsR.nil)) EqsOk.nil) rfl Try.func65 (by kernel_rfl) (fun _ _=>LpsOk.cons (by kernel_rfl) (rput_lp R (dropR R nm R.length) nm a b c (by have:=dropR_len R nm R.length;omega) _ rfl) (LpsOk.nil _)) (cs:=[false]) (by kernel_rfl) (rput_w0 R (pwR R nm a b c) nm a b c (by omega) hq he) w e vs hM ha
  |true=>
   have he:(pwS (dropR R nm R.length) nm a b c (dropR R nm R.length).length).1++[⟨[a,b,c],[nm]⟩]=pwR R nm a b c:=by
    unfold pwR
    have hq2:(pwS (dropR R nm R.length) nm a b c (dropR R nm R.length).length).2=false:=by simpa using hq
    rw [hq2];rfl
   exact ctr_way (I:=Id') (fun (W0:World) (G:Nat→Prop)=>SyOk.mk2 Try.mixed dkHo_ok (FnsR.cons (R_rdrop) (FnsR.nil)) EqsOk.nil) rfl Try.func65 (by kernel_rfl) (fun _ _=>LpsOk.cons (by kernel_rfl) (rput_lp R (dropR R nm R.length) nm a b c (by have:=dropR_len R nm R.length;omega) _ rfl) (LpsOk.nil _)) (cs:=[true]) (by kernel_rfl) (rput_w1 R (pwR R nm a b c) nm a b c (by omega) hq he (by omega)) w e vs hM ha
 ·cases h
end Go.Proofs.Ytdenmoiaiemokaa
set_option linter.unusedVariables false
namespace Go.Proofs.Ytdenmoiaiemokaa
open Go.RowKit
def tbE (L:List (List UInt8)) (i:Nat):List CD:=[.bs (L.getD i [])]
def wkO:Ob Td→Option (Ob Td)
 |.us (.ext (.tab (.bs L)))=>some (.us (.ext (.shr 1 L.length (tbE L))))
 |.us (.ext (.flat (.rw _ ks R)))=>(match ks with|[]=>none|_::_=>some (.us (.ext (.vw ks R))))
 |.us (.own l)=>some (.us (.byt l))
 |_=>none
def wkE (en:En Td):En Td:=match en.mu,wkO en.ob with
 |true,some o=>⟨o,false⟩
 |_,_=>en
def wkM:Mem Td→Mem Td
 |[]=>[]
 |en::r=>wkE en::wkM r
def kpE (en:En Td):Bool:=!en.mu||(match wkO en.ob with|some _=>true|none=>false)
def nwE (en:En Td):Bool:=match en.ob with
 |.dead=>true
 |.us (.ext (.flat _))=>en.mu
 |.us (.own _)=>en.mu
 |.blk _=>en.mu
 |.bx _=>en.mu
 |_=>false
def reW:Mem Td→Mem Td→Option (Mem Td)
 |[],[]=>some []
 |[],m::sm=>(match nwE m,reW [] sm with|true,some q=>some (m::q)|_,_=>none)
 |s::r,m::sm=>(match kpE s||nwE m,reW r sm with|true,some q=>some ((match kpE s with|true=>s|false=>m)::q)|_,_=>none)
 |_::_,[]=>none
def wkC (C:Ctr Td):Ctr Td:=fun us sub=>match C us (wkM sub) with
 |some (ps,x,sm)=>(match reW sub sm with|some q=>some (ps,x,q)|none=>none)
 |none=>none
theorem wkM_len:∀ m:Mem Td,(wkM m).length=m.length
 |[]=>rfl
 |_::r=>by simp [wkM,wkM_len r]
theorem wkM_get:∀ (m:Mem Td) (i:Nat),(wkM m)[i]? =m[i]?.map wkE
 |[],i=>by simp [wkM]
 |en::r,0=>by simp [wkM]
 |en::r,i+1=>by simp only [wkM,List.getElem?_cons_succ];exact wkM_get r i
theorem wkE_cases (en:En Td):(wkE en=en∧(en.mu=true→kpE en=false))∨(en.mu=true∧∃ o,wkO en.ob=some o∧wkE en=⟨o,false⟩):=by
 obtain ⟨ob,mu⟩:=en
 cases mu with
 |false=>exact .inl ⟨rfl,fun h=>by cases h⟩
 |true=>
  cases ho:wkO ob with
  |none=>exact .inl ⟨by simp [wkE,ho],fun _=>by simp [kpE,ho]⟩
  |some o=>exact .inr ⟨rfl,o,by first|exact ho|rfl,by simp [wkE,ho]⟩
theorem wkO_inv {ob o:Ob Td} (h:wkO ob=some o):(∃ t k ks R,ob=.us (.ext (.flat (.rw t (k::ks) R)))∧o=.us (.ext (.vw (k::ks) R)))∨(∃ l,ob=.us (.own l)∧o=.us (.byt l))∨∃ L,ob=.us (.ext (.tab (.bs L)))∧o=.us (.ext (.shr 1 L.length (tbE L))):=by
 unfold wkO at h
 split at h
 ·simp only [Option.some.injEq] at h;exact .inr (.inr ⟨_,rfl,h.symm⟩)
 ·rename_i t ks R
  cases ks with
  |nil=>cases h
  |cons k ks=>simp only [Option.some.injEq] at h;exact .inl ⟨t,k,ks,R,rfl,h.symm⟩
 ·simp only [Option.some.injEq] at h;exact .inr (.inl ⟨_,rfl,h.symm⟩)
 ·cases h
theorem tab0_cells:∀ {L:List (List UInt8)} {vals:List Value},vals.length=L.length→tabCells (TB.bs L).R vals=vals
 |[],[],_=>rfl
 |l::L,v::vals,h=>by
  have:=tab0_cells (L:=L) (vals:=vals) (by simpa using h)
  show tabCells (([],l)::(TB.bs L).R) (v::vals)=_
  rw [tabCells_cons,this];rfl
 |[],_::_,h=>by simp at h
 |_::_,[],h=>by simp at h
theorem tab0_at {w:World} {u:Value} {L:List (List UInt8)} (h:tabHolds (TB.bs L).t (TB.bs L).k (TB.bs L).R w u):∃ vals:List Value,vals.length=L.length∧Rs w 1 u L.length vals∧∀ (i:Nat) (v:Value),vals[i]? =some v→Bs w v (L.getD i []):=by
 obtain ⟨_,_,vals,hl,⟨B,_,ho⟩,hr⟩:=h
 have hR:(TB.bs L).R.length=L.length:=by simp [TB.R]
 rw [hR] at hl
 refine ⟨vals,hl,?_,fun i v hv=>?_⟩
 ·have:=Rs.of_owns ho
  rw [tab0_cells hl,hR] at this
  exact this
 ·have hi:i<L.length:=by rw [← hl];exact (List.getElem?_eq_some_iff.1 hv).1
  have:=(hr i v ([],L.getD i []) hv (by simp [TB.R,List.getD_eq_getElem?_getD,List.getElem?_eq_getElem hi])).1
  exact this
theorem wkO_holds {e:Env} {w:World} {u:Value} {m m':Bool} {ob o:Ob Td} (h:wkO ob=some o) (hh:Holds Id' e w u m ob):Holds Id' e w u m' o:=by
 rcases wkO_inv h with ⟨t,k,ks,R,rfl,rfl⟩|⟨l,rfl,rfl⟩|⟨L,rfl,rfl⟩
 ·obtain ⟨_,B,_,ho⟩:=hh
  have:=Rs.of_owns ho
  simp only [FL.len] at this
  exact ⟨by simp,this⟩
 ·obtain ⟨B,_,ho⟩:=hh
  exact Rs.of_owns ho
 ·obtain ⟨vals,hl,hR,hv⟩:=tab0_at hh
  refine ⟨by decide,vals,hR,fun i j c v hi hj hc hcv=>?_⟩
  obtain rfl:j=0:=by omega
  simp only [tbE,List.getElem?_cons_zero,Option.some.injEq] at hc
  subst hc
  exact hv i v (by simpa using hcv)
theorem wkO_foot {w:World} {u:Value} {ob o:Ob Td} (h:wkO ob=some o) {k:Nat} (hk:Foot Id' w u o k):Foot Id' w u ob k:=by
 rcases wkO_inv h with ⟨t,k',ks,R,rfl,rfl⟩|⟨l,rfl,rfl⟩|⟨L,rfl,rfl⟩
 ·exact hk.2
 ·exact hk.2
 ·rcases hk with hk|⟨i,j,c,v,hi,hj,hc,hf,⟨a,n,cap,hu,hcl⟩,hv⟩
  ·exact .inl hk.2
  ·obtain rfl:j=0:=by omega
   simp only [tbE,List.getElem?_cons_zero,Option.some.injEq] at hc
   subst hc
   refine .inr ⟨i,([],L.getD i []),v,?_,hf,⟨a,n,cap,hu,?_⟩,hv⟩
   ·simp [TB.R,List.getD_eq_getElem?_getD,List.getElem?_eq_getElem hi]
   ·have e:i * 1+0=i * (0+1)+0:=by omega
    rw [e] at hcl
    exact hcl
theorem wkE_foot {en:En Td} {w:World} {u:Value} {k:Nat} (h:Foot Id' w u (wkE en).ob k):Foot Id' w u en.ob k:=by
 rcases wkE_cases en with ⟨he,_⟩|⟨_,o,ho,he⟩
 ·rw [he] at h;exact h
 ·rw [he] at h;exact wkO_foot ho h
theorem wkE_mu {en:En Td} (h:(wkE en).mu=true):wkE en=en∧en.mu=true∧kpE en=false:=by
 rcases wkE_cases en with ⟨he,hk⟩|⟨_,o,ho,he⟩
 ·rw [he] at h;exact ⟨he,h,hk h⟩
 ·rw [he] at h;cases h
theorem wkM_inv {mem:Mem Td} {i:Nat} {n:En Td} (h:(wkM mem)[i]? =some n):∃ en,mem[i]? =some en∧n=wkE en:=by
 rw [wkM_get] at h
 cases hm:mem[i]? with
 |none=>rw [hm] at h;cases h
 |some en=>rw [hm] at h;simp only [Option.map_some,Option.some.injEq] at h;exact ⟨en,rfl,h.symm⟩
theorem nwE_own {en:En Td} (h:nwE en=true) {w:World} {u:Value} {k:Nat} (hk:Foot Id' w u en.ob k):en.mu=true∧Own Id' w u en.ob k:=by
 obtain ⟨ob,mu⟩:=en
 unfold nwE at h
 split at h
 ·rename_i hb;dsimp only at hb hk;rw [hb] at hk;cases hk
 ·rename_i hb;dsimp only at hb hk h ⊢;rw [hb] at hk ⊢;exact ⟨h,hk⟩
 ·rename_i hb;dsimp only at hb hk h ⊢;rw [hb] at hk ⊢;exact ⟨h,hk⟩
 ·rename_i hb;dsimp only at hb hk h ⊢;rw [hb] at hk ⊢;exact ⟨h,hk⟩
 ·rename_i hb;dsimp only at hb hk h ⊢;rw [hb] at hk ⊢;exact ⟨h,hk⟩
 ·cases h
theorem reW_get:∀ {sub sm q:Mem Td},reW sub sm=some q→q.length=sm.length∧sub.length≤sm.length∧∀ (i:Nat) (n:En Td),q[i]? =some n→(sub[i]? =some n∧kpE n=true)∨(sm[i]? =some n∧nwE n=true)
 |[],[],q,h=>by
  simp only [reW,Option.some.injEq] at h
  subst h
  exact ⟨rfl,Nat.le_refl _,fun i n h=>by simp at h⟩
 |[],m::sm,q,h=>by
  unfold reW at h
  split at h
  ·rename_i q' h1 h2
   simp only [Option.some.injEq] at h
   subst h
   obtain ⟨g1,g2,g3⟩:=reW_get h2
   refine ⟨by simp [g1],by simp,fun i n hn=>?_⟩
   cases i with
   |zero=>simp only [List.getElem?_cons_zero,Option.some.injEq] at hn;subst hn;exact .inr ⟨rfl,h1⟩
   |succ i=>
    rw [List.getElem?_cons_succ] at hn
    rcases g3 i n hn with ⟨h5,_⟩|h5
    ·simp at h5
    ·exact .inr h5
  ·cases h
 |s::r,m::sm,q,h=>by
  unfold reW at h
  split at h
  ·rename_i q' h1 h2
   simp only [Option.some.injEq] at h
   subst h
   obtain ⟨g1,g2,g3⟩:=reW_get h2
   refine ⟨by simp [g1],by simp only [List.length_cons];omega,fun i n hn=>?_⟩
   cases i with
   |zero=>
    simp only [List.getElem?_cons_zero,Option.some.injEq] at hn
    subst hn
    cases hk:kpE s with
    |true=>exact .inl ⟨rfl,hk⟩
    |false=>rw [hk] at h1;exact .inr ⟨rfl,by simpa using h1⟩
   |succ i=>
    rw [List.getElem?_cons_succ] at hn
    exact g3 i n hn
  ·cases h
 |_::_,[],q,h=>by simp [reW] at h
theorem wkC_ok {P:Program} {f:FuncId} {C:Ctr Td} (hC:CtrOk P Id' f C):CtrOk P Id' f (wkC C):=by
 intro us sub ps x q h hp w e vs hM ha
 unfold wkC at h
 split at h
 ·rename_i ps' x' sm h1
  split at h
  ·rename_i q' h2
   simp only [Option.some.injEq,Prod.mk.injEq] at h
   obtain ⟨rfl,rfl,rfl⟩:=h
   have hO:∀ k,OwnOf Id' w e (wkM sub) k→OwnOf Id' w e sub k:=fun k ⟨i,u,n,hu,hn,hmu,hk⟩=>by
    obtain ⟨en,g1,rfl⟩:=wkM_inv hn
    obtain ⟨g2,g3,_⟩:=wkE_mu hmu
    rw [g2] at hk
    exact ⟨i,u,en,hu,g1,g3,hk⟩
   have hF:∀ k,FootOf Id' w e (wkM sub) (2 * k)→OwnOf Id' w e (wkM sub) k:=fun k hk=>by
    rcases hk with ⟨_,hk⟩|⟨hk,_⟩
    ·rw [show 2 * k / 2=k by omega] at hk;exact hk
    ·omega
   have hE:∀ k,OwnOf Id' w e sub k→FootOf Id' w e sub (2 * k):=fun k hk=>.inl ⟨by omega,by rw [show 2 * k / 2=k by omega];exact hk⟩
   have hR:∀ k,ReadOf Id' w e sub k→¬ FootOf Id' w e sub (2 * k+1):=fun k hk hk'=>by
    rcases hk' with ⟨h,_⟩|⟨_,h⟩
    ·omega
    ·rw [show (2 * k+1) / 2=k by omega] at h;exact h hk
   have hs:MemOk w (FootOf Id' w e (wkM sub)) Id' w e (wkM sub):=by
    refine ⟨by rw [wkM_len];exact hM.len,fun i u n hu hn=>?_,fun i u n hu hn k hk=>?_,fun i u n hu hn hmu k hk=>?_,fun i j u v n m hu hn hmu hv hm hij k hk1 hk2=>?_,Mod.refl _ _,fun i u n hu hn k hk=>.inr fun hg=>?_⟩
    ·obtain ⟨en,g1,rfl⟩:=wkM_inv hn
     have hh:=hM.holds i u en hu g1
     rcases wkE_cases en with ⟨he,_⟩|⟨_,o,ho,he⟩
     ·rw [he];exact hh
     ·rw [he];exact wkO_holds ho hh
    ·obtain ⟨en,g1,rfl⟩:=wkM_inv hn
     exact hM.lt i u en hu g1 k (wkE_foot hk)
    ·exact .inr (.inl ⟨by omega,by rw [show 2 * k / 2=k by omega];exact ⟨i,u,n,hu,hn,hmu,hk⟩⟩)
    ·obtain ⟨en,g1,rfl⟩:=wkM_inv hn
     obtain ⟨em,g2,rfl⟩:=wkM_inv hm
     obtain ⟨g3,g4,_⟩:=wkE_mu hmu
     rw [g3] at hk1
     exact hM.sep i j u v en em hu g1 g4 hv g2 hij k hk1 (wkE_foot hk2)
    ·rcases hg with ⟨h,_⟩|⟨_,h⟩
     ·omega
     ·rw [show (2 * k+1) / 2=k by omega] at h;exact h ⟨i,u,n,hu,hn,hk⟩
   refine (hC us (wkM sub) ps' x' sm h1 hp w e vs hs ha).mono fun y w' ⟨v,e',hy,hg,hx,hM'⟩=>⟨v,e',hy,hg,hx,?_⟩
   obtain ⟨q1,q2,q3⟩:=reW_get h2
   -- what is kept is not turned
   have kept:∀ (i:Nat) (n:En Td) (u:Value),sub[i]? =some n→kpE n=true→e[i]? =some u→(∀ k,Foot Id' w u n.ob k→¬ OwnOf Id' w e (wkM sub) k)∧Holds Id' e' w' u n.mu n.ob∧(∀ k,Foot Id' w' u n.ob k→Foot Id' w u n.ob k)∧∀ k,Own Id' w' u n.ob k→Own Id' w u n.ob k:=fun i n u hn hk hu=>by
    have hno:∀ k,Foot Id' w u n.ob k→¬ OwnOf Id' w e (wkM sub) k:=fun k hk1 ⟨j,v,m,hv,hm,hmu,hk2⟩=>by
     obtain ⟨em,g1,rfl⟩:=wkM_inv hm
     obtain ⟨g2,g3,g4⟩:=wkE_mu hmu
     rw [g2] at hk2
     refine hM.sep j i v u em n hv g1 g3 hu hn (fun hij=>?_) k hk2 hk1
     subst hij
     rw [hn] at g1
     cases g1
     rw [hk] at g4;cases g4
    have hh:=hM.holds i u n hu hn
    have hst:=hh.stay hM'.mod (fun k hk1 hk2=>hno k hk1 (hF k hk2))
    exact ⟨hno,hst.1.mono hg,hst.2,hh.stayO hM'.mod (fun k hk1 hk2=>hno k hk1 (hF k hk2))⟩
   have old:∀ (i:Nat) (u:Value) (n:En Td),sub[i]? =some n→e'[i]? =some u→e[i]? =some u:=fun i u n hn hu=>by
    have hlt:i<e.length:=by rw [hM.len];exact (List.getElem?_eq_some_iff.1 hn).1
    have:=hg i _ (List.getElem?_eq_getElem hlt)
    rw [hu] at this
    cases this
    exact List.getElem?_eq_getElem hlt
   have fresh:∀ (i:Nat) (u:Value) (n:En Td),sm[i]? =some n→nwE n=true→e'[i]? =some u→∀ k,Foot Id' w' u n.ob k→w.heap.size≤k∨OwnOf Id' w e (wkM sub) k:=fun i u n hn hw hu k hk=>by
    obtain ⟨g1,g2⟩:=nwE_own hw hk
    rcases hM'.own i u n hu hn g1 k g2 with h|h
    ·exact .inl h
    ·exact .inr (hF k h)
   have apart:∀ (i j:Nat) (u v:Value) (n m:En Td),sub[i]? =some n→kpE n=true→e'[i]? =some u→sm[j]? =some m→nwE m=true→e'[j]? =some v→∀ k,Foot Id' w' u n.ob k→¬ Foot Id' w' v m.ob k:=fun i j u v n m hn hkn hu hm hwm hv k hk1 hk2=>by
    have hu0:=old i u n hn hu
    obtain ⟨g1,_,g3,_⟩:=kept i n u hn hkn hu0
    rcases fresh j v m hm hwm hv k hk2 with h|h
    ·have:=hM.lt i u n hu0 hn k (g3 k hk1);omega
    ·exact g1 k (g3 k hk1) h
   refine ⟨by rw [q1];exact hM'.len,fun i u n hu hn=>?_,fun i u n hu hn k hk=>?_,fun i u n hu hn hmu k hk=>?_,fun i j u v n m hu hn hmu hv hm hij k hk1 hk2=>?_,hM'.mod.mono fun k _ hk=>hE k (hO k (hF k hk)),fun i u n hu hn k hk=>?_⟩
   ·rcases q3 i n hn with ⟨h,hk⟩|⟨h,hk⟩
    ·exact (kept i n u h hk (old i u n h hu)).2.1
    ·exact hM'.holds i u n hu h
   ·rcases q3 i n hn with ⟨h,hk'⟩|⟨h,hk'⟩
    ·have hu0:=old i u n h hu
     have:=hM.lt i u n hu0 h k ((kept i n u h hk' hu0).2.2.1 k hk)
     exact Nat.lt_of_lt_of_le this hM'.mod.size
    ·exact hM'.lt i u n hu h k hk
   ·rcases q3 i n hn with ⟨h,hk'⟩|⟨h,hk'⟩
    ·have hu0:=old i u n h hu
     exact .inr (hE k ⟨i,u,n,hu0,h,hmu,(kept i n u h hk' hu0).2.2.2 k hk⟩)
    ·rcases fresh i u n h hk' hu k hk.foot with g|g
     ·exact .inl g
     ·exact .inr (hE k (hO k g))
   ·rcases q3 i n hn with ⟨h,hkn⟩|⟨h,hkn⟩<;>rcases q3 j m hm with ⟨g,hkm⟩|⟨g,hkm⟩
    ·have hu0:=old i u n h hu
     have hv0:=old j v m g hv
     exact hM.sep i j u v n m hu0 h hmu hv0 g hij k ((kept i n u h hkn hu0).2.2.2 k hk1) ((kept j m v g hkm hv0).2.2.1 k hk2)
    ·exact apart i j u v n m h hkn hu g hkm hv k hk1.foot hk2
    ·exact apart j i v u m n g hkm hv h hkn hu k hk2 hk1.foot
    ·exact hM'.sep i j u v n m hu h hmu hv g hij k hk1 hk2
   ·rcases q3 i n hn with ⟨h,hk'⟩|⟨h,hk'⟩
    ·have hu0:=old i u n h hu
     exact .inr (hR k ⟨i,u,n,hu0,h,(kept i n u h hk' hu0).2.2.1 k hk⟩)
    ·rcases fresh i u n h hk' hu k hk with g|g
     ·exact .inl g
     ·obtain ⟨i',u',n',a1,a2,_,a4⟩:=hO k g
      exact .inr (hR k ⟨i',u',n',a1,a2,a4.foot⟩)
  ·cases h
 ·cases h
end Go.Proofs.Ytdenmoiaiemokaa
