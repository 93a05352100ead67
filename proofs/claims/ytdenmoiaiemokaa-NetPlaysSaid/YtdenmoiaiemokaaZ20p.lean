/- Z17 Z18 Z20. -/
import Derived.Test.YtdenmoiaiemokaaZ16p
import Derived.Test.YtdenmoiaiemokaaH13p
set_option linter.unusedVariables false
set_option linter.unusedSimpArgs false
namespace Go.Proofs.Ytdenmoiaiemokaa
open Go.RowKit
structure PkDo where
 kind:Int
 to':Int
 i:Int
 b:List UInt8
def PkDo.zero:PkDo:=⟨0,0,0,[]⟩
def pkEl (l:List PkDo) (i:Nat):List CD:=[.v (.int .i64 (l.getD i PkDo.zero).kind),.v (.int .i64 (l.getD i PkDo.zero).to'),.v (.int .i64 (l.getD i PkDo.zero).i),.bs (l.getD i PkDo.zero).b]
def incP (b:List UInt8):Nat→List UInt8
 |0=>b
 |k+1=>(incP b k).set k (UInt8.ofNat (IntKind.u8.wrap ((((incP b k).getD k 0).toNat:Int)+1)).toNat)
def dbN (Q:List (Int×List UInt8)):Nat→List (Int×List UInt8)
 |0=>Q
 |k+1=>dbQ (dbN Q k) 0
theorem incP_len (b:List UInt8):∀ k,(incP b k).length=b.length
 |0=>rfl
 |k+1=>by simp only [incP,List.length_set];exact incP_len b k
theorem u8_inP (x:Int):0≤IntKind.u8.wrap x∧IntKind.u8.wrap x<256:=by
 have h:IntKind.u8.wrap x=x % 256:=rfl
 rw [h];omega
set_option maxRecDepth 100000 in
theorem pin2_n (l:List PkDo) (kd tt ii a:Int) (b c y:List UInt8) (Q:List (Int×List UInt8)) (d dn:List UInt8) (k:Nat) (f:Nat→Value) (h0:decide ((k:Int)<(d.length:Int))=true) (h1:IntKind.i64.wrap ((k:Int)+1)=((k+1:Nat):Int)) (h2:k<d.length) (h3:d.set ((k:Int).toNat) (UInt8.ofNat (IntKind.u8.wrap (((d.getD ((k:Int).toNat) 0).toNat:Int)+1)).toNat)=dn):∃ qs,alN Id' 12 [(9,.c (.one (.v (.int .i64 ((k+1:Nat):Int)))))] [⟨.us (.ext (.shr 4 l.length (pkEl l))),false⟩,⟨.bx [.obj 10],true⟩,⟨.dead,true⟩,⟨.bx [.obj 11],true⟩,⟨.dead,true⟩,⟨.dead,true⟩,⟨.us (.byt b),false⟩,⟨.blk [.v (.int .i64 kd),.v (.int .i64 tt),.v (.int .i64 ii),.obj 6],true⟩,⟨.us (.byt c),false⟩,⟨.us (.own dn),true⟩,⟨.us (.ext (.tab (.wq 37 Q))),true⟩,⟨.us (.ext (.tab (.wq 39 Q))),true⟩] ((symC (⟨Try.prog,[],[],dkHo,Id'.one,60⟩:Sy Td) [] 210 (hdC (loopsC (bodyOf Try.f3)) 1) ⟨[(9,.c (.one (.v (.int .i64 (k:Int)))))]++anyB' (writesC (hdC (loopsC (bodyOf Try.f3)) 1)) ([(7,.c (.one (.obj 9)))]++tabV f 210),[⟨.us (.ext (.shr 4 l.length (pkEl l))),false⟩,⟨.bx [.obj 10],true⟩,⟨.dead,true⟩,⟨.bx [.obj 11],true⟩,⟨.dead,true⟩,⟨.dead,true⟩,⟨.us (.byt b),false⟩,⟨.blk [.v (.int .i64 kd),.v (.int .i64 tt),.v (.int .i64 ii),.obj 6],true⟩,⟨.us (.byt c),false⟩,⟨.us (.own d),true⟩,⟨.us (.ext (.tab (.wq 37 Q))),true⟩,⟨.us (.ext (.tab (.wq 39 Q))),true⟩],0⟩).al [true])=some qs∧∀ q∈qs,q:=
 ⟨[decide ((↑k:Int)<(↑d.length:Int))=true,(0:Int)≤IntKind.u8.wrap ((↑(d.getD (↑k:Int).toNat (0:UInt8)).toNat:Int)+(1:Int))∧IntKind.u8.wrap ((↑(d.getD (↑k:Int).toNat (0:UInt8)).toNat:Int)+(1:Int))<(256:Int),(0:Int)≤(↑k:Int)∧(↑k:Int).toNat<d.length,(0:Int)≤(↑k:Int)∧(↑k:Int).toNat<d.length,(Th.ext (Dk.shr 4 l.length (pkEl l)):Td)=Th.ext (Dk.shr 4 l.length (pkEl l)),(Th.byt b:Td)=Th.byt b,Value.int IntKind.i64 kd=Value.int IntKind.i64 kd,Value.int IntKind.i64 tt=Value.int IntKind.i64 tt,Value.int IntKind.i64 ii=Value.int IntKind.i64 ii,(Th.byt c:Td)=Th.byt c,(Th.own (d.set ((k:Int).toNat) (UInt8.ofNat (IntKind.u8.wrap (((d.getD ((k:Int).toNat) 0).toNat:Int)+1)).toNat)):Td)=Th.own dn,(Th.ext (Dk.tab (TB.wq 37 Q)):Td)=Th.ext (Dk.tab (TB.wq 37 Q)),(Th.ext (Dk.tab (TB.wq 39 Q)):Td)=Th.ext (Dk.tab (TB.wq 39 Q)),Value.int IntKind.i64 (IntKind.i64.wrap ((↑k:Int)+(1:Int)))=Value.int IntKind.i64 (↑(k+(1:Nat)):Int)],by kernel_rfl,(by refine mcons ?_ (mcons ?_ (mcons ?_ (mcons ?_ (mcons ?_ (mcons ?_ (mcons ?_ (mcons ?_ (mcons ?_ (mcons ?_ (mcons ?_ (mcons ?_ (mcons ?_ (mcons ?_ mnil)))))))))))))<;>first|rfl|exact h0|exact h1|exact h2|exact h3|trivial|(exact ⟨by omega,by show (k:Int).toNat<d.length;omega⟩)|(exact u8_inP _)|(exact congrArg Th.own h3)|(exact congrArg Th.own h1)|(exact congrArg (Value.int .i64) h1))⟩
set_option maxRecDepth 100000 in
theorem pin2_x (l:List PkDo) (kd tt ii a:Int) (b c y:List UInt8) (Q:List (Int×List UInt8)) (d dn:List UInt8) (k:Nat) (f:Nat→Value) (h0:decide ((k:Int)<(d.length:Int))=false) (h1:d=dn):∃ qs,alX Id' 12 5 [] [⟨.us (.ext (.shr 4 l.length (pkEl l))),false⟩,⟨.bx [.obj 10],true⟩,⟨.dead,true⟩,⟨.bx [.obj 11],true⟩,⟨.dead,true⟩,⟨.dead,true⟩,⟨.us (.byt b),false⟩,⟨.blk [.v (.int .i64 kd),.v (.int .i64 tt),.v (.int .i64 ii),.obj 6],true⟩,⟨.us (.byt c),false⟩,⟨.us (.own dn),true⟩,⟨.us (.ext (.tab (.wq 37 Q))),true⟩,⟨.us (.ext (.tab (.wq 39 Q))),true⟩] ((symC (⟨Try.prog,[],[],dkHo,Id'.one,60⟩:Sy Td) [] 210 (hdC (loopsC (bodyOf Try.f3)) 1) ⟨[(9,.c (.one (.v (.int .i64 (k:Int)))))]++anyB' (writesC (hdC (loopsC (bodyOf Try.f3)) 1)) ([(7,.c (.one (.obj 9)))]++tabV f 210),[⟨.us (.ext (.shr 4 l.length (pkEl l))),false⟩,⟨.bx [.obj 10],true⟩,⟨.dead,true⟩,⟨.bx [.obj 11],true⟩,⟨.dead,true⟩,⟨.dead,true⟩,⟨.us (.byt b),false⟩,⟨.blk [.v (.int .i64 kd),.v (.int .i64 tt),.v (.int .i64 ii),.obj 6],true⟩,⟨.us (.byt c),false⟩,⟨.us (.own d),true⟩,⟨.us (.ext (.tab (.wq 37 Q))),true⟩,⟨.us (.ext (.tab (.wq 39 Q))),true⟩],0⟩).al [false])=some qs∧∀ q∈qs,q:=
 ⟨[decide ((↑k:Int)<(↑d.length:Int))=false,(Th.ext (Dk.shr 4 l.length (pkEl l)):Td)=Th.ext (Dk.shr 4 l.length (pkEl l)),(Th.byt b:Td)=Th.byt b,Value.int IntKind.i64 kd=Value.int IntKind.i64 kd,Value.int IntKind.i64 tt=Value.int IntKind.i64 tt,Value.int IntKind.i64 ii=Value.int IntKind.i64 ii,(Th.byt c:Td)=Th.byt c,(Th.own d:Td)=Th.own dn,(Th.ext (Dk.tab (TB.wq 37 Q)):Td)=Th.ext (Dk.tab (TB.wq 37 Q)),(Th.ext (Dk.tab (TB.wq 39 Q)):Td)=Th.ext (Dk.tab (TB.wq 39 Q))],by kernel_rfl,(by refine mcons ?_ (mcons ?_ (mcons ?_ (mcons ?_ (mcons ?_ (mcons ?_ (mcons ?_ (mcons ?_ (mcons ?_ (mcons ?_ mnil)))))))))<;>first|rfl|exact h0|exact h1|trivial|(exact ⟨by omega,by show (k:Int).toNat<d.length;omega⟩)|(exact u8_inP _)|(exact congrArg Th.own h3)|(exact congrArg Th.own h1)|(exact congrArg (Value.int .i64) h1))⟩
set_option maxRecDepth 100000 in
theorem pin2_lp (l:List PkDo) (kd tt ii a:Int) (b c y:List UInt8) (Q:List (Int×List UInt8)) (bb:List UInt8) (hb:bb.length≤1000000) {W0:World} {G:Nat→Prop} (S0:Sy Td) (hS0:S0.P=Try.prog):LoopSound S0 Id' W0 G 210 (hdC (loopsC (bodyOf Try.f3)) 1) (lpG Id' 210 (hdC (loopsC (bodyOf Try.f3)) 1) 12 [(9,.c (.one (.v (.int .i64 ((0:Nat):Int)))))] [(7,.c (.one (.obj 9)))] [⟨.us (.ext (.shr 4 l.length (pkEl l))),false⟩,⟨.bx [.obj 10],true⟩,⟨.dead,true⟩,⟨.bx [.obj 11],true⟩,⟨.dead,true⟩,⟨.dead,true⟩,⟨.us (.byt b),false⟩,⟨.blk [.v (.int .i64 kd),.v (.int .i64 tt),.v (.int .i64 ii),.obj 6],true⟩,⟨.us (.byt c),false⟩,⟨.us (.own (incP bb 0)),true⟩,⟨.us (.ext (.tab (.wq 37 Q))),true⟩,⟨.us (.ext (.tab (.wq 39 Q))),true⟩] (.leaf (.exit 5) [] [⟨.us (.ext (.shr 4 l.length (pkEl l))),false⟩,⟨.bx [.obj 10],true⟩,⟨.dead,true⟩,⟨.bx [.obj 11],true⟩,⟨.dead,true⟩,⟨.dead,true⟩,⟨.us (.byt b),false⟩,⟨.blk [.v (.int .i64 kd),.v (.int .i64 tt),.v (.int .i64 ii),.obj 6],true⟩,⟨.us (.byt c),false⟩,⟨.us (.own (incP bb bb.length)),true⟩,⟨.us (.ext (.tab (.wq 37 Q))),true⟩,⟨.us (.ext (.tab (.wq 39 Q))),true⟩])):=by
 refine lp_sound (V:=fun k=>[(9,.c (.one (.v (.int .i64 (k:Int)))))]) (M:=(fun k=>[⟨.us (.ext (.shr 4 l.length (pkEl l))),false⟩,⟨.bx [.obj 10],true⟩,⟨.dead,true⟩,⟨.bx [.obj 11],true⟩,⟨.dead,true⟩,⟨.dead,true⟩,⟨.us (.byt b),false⟩,⟨.blk [.v (.int .i64 kd),.v (.int .i64 tt),.v (.int .i64 ii),.obj 6],true⟩,⟨.us (.byt c),false⟩,⟨.us (.own (incP bb k)),true⟩,⟨.us (.ext (.tab (.wq 37 Q))),true⟩,⟨.us (.ext (.tab (.wq 39 Q))),true⟩]:Nat→Mem Td)) (N:=1000001) (Ux:=fun k x=>match x with|.exit 5=>some ([],([⟨.us (.ext (.shr 4 l.length (pkEl l))),false⟩,⟨.bx [.obj 10],true⟩,⟨.dead,true⟩,⟨.bx [.obj 11],true⟩,⟨.dead,true⟩,⟨.dead,true⟩,⟨.us (.byt b),false⟩,⟨.blk [.v (.int .i64 kd),.v (.int .i64 tt),.v (.int .i64 ii),.obj 6],true⟩,⟨.us (.byt c),false⟩,⟨.us (.own (incP bb bb.length)),true⟩,⟨.us (.ext (.tab (.wq 37 Q))),true⟩,⟨.us (.ext (.tab (.wq 39 Q))),true⟩]:Mem Td))|_=>none) (X:=fun _ _=>True) (J:=fun k=>k≤bb.length) (fun k=>by kernel_rfl) (Nat.zero_le _) (fun k hk hJ f=>?_) (fun K hK k x U hk hU hX=>?_)
 ·rw [hS0]
  have hlen:=incP_len bb k
  cases hT:decide ((k:Int)<((incP bb k).length:Int)) with
  |false=>
   have hk1:k=bb.length:=by have:=of_decide_eq_false hT;omega
   exact rnd_xD (⟨Try.prog,[],[],dkHo,Id'.one,60⟩:Sy Td) rfl ((fun (W0:World) (G:Nat→Prop)=>SyOk.mk2 Try.mixed dkHo_ok (FnsR.nil) EqsOk.nil) W0 G) (pin2_x l kd tt ii a b c y Q _ _ k f hT (by rw [← hk1])) rfl trivial
  |true=>
   have hk1:k<bb.length:=by have:=of_decide_eq_true hT;omega
   have hW:IntKind.i64.wrap ((k:Int)+1)=((k+1:Nat):Int):=by rw [IntWalk.i64_in _ (by omega)];omega
   exact rnd_nD (⟨Try.prog,[],[],dkHo,Id'.one,60⟩:Sy Td) rfl ((fun (W0:World) (G:Nat→Prop)=>SyOk.mk2 Try.mixed dkHo_ok (FnsR.nil) EqsOk.nil) W0 G) (pin2_n l kd tt ii a b c y Q _ _ k f hT hW (by omega) (by rw [Int.toNat_natCast];rfl)) rfl rfl (by omega) (by omega)
 ·revert hU
  match x with
  |.normal=>intro hU;cases hU
  |.ret=>intro hU;cases hU
  |.exit n=>
   intro hU
   by_cases h:n=5
   ·subst h;simp only [Option.some.injEq] at hU;subst hU;exact hK
   ·exfalso;split at hU
    ·rename_i he;cases he;exact h rfl
    ·cases hU
set_option maxRecDepth 100000 in
theorem pin3_n (l:List PkDo) (kd tt ii a:Int) (b c y:List UInt8) (Q:List (Int×List UInt8)) (d dn:List UInt8) (k:Nat) (f:Nat→Value) (h0:decide ((k:Int)<(d.length:Int))=true) (h1:IntKind.i64.wrap ((k:Int)+1)=((k+1:Nat):Int)) (h2:k<d.length) (h3:d.set ((k:Int).toNat) (UInt8.ofNat (IntKind.u8.wrap (((d.getD ((k:Int).toNat) 0).toNat:Int)+1)).toNat)=dn):∃ qs,alN Id' 14 [(14,.c (.one (.v (.int .i64 ((k+1:Nat):Int)))))] [⟨.us (.ext (.shr 4 l.length (pkEl l))),false⟩,⟨.bx [.obj 4],true⟩,⟨.dead,true⟩,⟨.bx [.obj 5],true⟩,⟨.us (.ext (.tab (.wq 37 Q))),true⟩,⟨.us (.ext (.tab (.wq 39 Q))),true⟩,⟨.us (.byt b),false⟩,⟨.blk [.v (.int .i64 kd),.v (.int .i64 tt),.v (.int .i64 ii),.obj 6],true⟩,⟨.us (.byt c),false⟩,⟨.us (.own c),true⟩,⟨.blk [.v (.int .i64 a),.obj 12],true⟩,⟨.blk [.v (.int .i64 a),.obj 13],true⟩,⟨.us (.own dn),true⟩,⟨.us (.byt y),false⟩] ((symC (⟨Try.prog,[],[],dkHo,Id'.one,60⟩:Sy Td) [] 210 (hdC (loopsC (bodyOf Try.f3)) 2) ⟨[(14,.c (.one (.v (.int .i64 (k:Int)))))]++anyB' (writesC (hdC (loopsC (bodyOf Try.f3)) 2)) ([(10,.c (.one (.ptr 10 0)))]++tabV f 210),[⟨.us (.ext (.shr 4 l.length (pkEl l))),false⟩,⟨.bx [.obj 4],true⟩,⟨.dead,true⟩,⟨.bx [.obj 5],true⟩,⟨.us (.ext (.tab (.wq 37 Q))),true⟩,⟨.us (.ext (.tab (.wq 39 Q))),true⟩,⟨.us (.byt b),false⟩,⟨.blk [.v (.int .i64 kd),.v (.int .i64 tt),.v (.int .i64 ii),.obj 6],true⟩,⟨.us (.byt c),false⟩,⟨.us (.own c),true⟩,⟨.blk [.v (.int .i64 a),.obj 12],true⟩,⟨.blk [.v (.int .i64 a),.obj 13],true⟩,⟨.us (.own d),true⟩,⟨.us (.byt y),false⟩],0⟩).al [true])=some qs∧∀ q∈qs,q:=
 ⟨[decide ((↑k:Int)<(↑d.length:Int))=true,(0:Int)≤IntKind.u8.wrap ((↑(d.getD (↑k:Int).toNat (0:UInt8)).toNat:Int)+(1:Int))∧IntKind.u8.wrap ((↑(d.getD (↑k:Int).toNat (0:UInt8)).toNat:Int)+(1:Int))<(256:Int),(0:Int)≤(↑k:Int)∧(↑k:Int).toNat<d.length,(0:Int)≤(↑k:Int)∧(↑k:Int).toNat<d.length,(Th.ext (Dk.shr 4 l.length (pkEl l)):Td)=Th.ext (Dk.shr 4 l.length (pkEl l)),(Th.ext (Dk.tab (TB.wq 37 Q)):Td)=Th.ext (Dk.tab (TB.wq 37 Q)),(Th.ext (Dk.tab (TB.wq 39 Q)):Td)=Th.ext (Dk.tab (TB.wq 39 Q)),(Th.byt b:Td)=Th.byt b,Value.int IntKind.i64 kd=Value.int IntKind.i64 kd,Value.int IntKind.i64 tt=Value.int IntKind.i64 tt,Value.int IntKind.i64 ii=Value.int IntKind.i64 ii,(Th.byt c:Td)=Th.byt c,(Th.own c:Td)=Th.own c,Value.int IntKind.i64 a=Value.int IntKind.i64 a,Value.int IntKind.i64 a=Value.int IntKind.i64 a,(Th.own (d.set ((k:Int).toNat) (UInt8.ofNat (IntKind.u8.wrap (((d.getD ((k:Int).toNat) 0).toNat:Int)+1)).toNat)):Td)=Th.own dn,(Th.byt y:Td)=Th.byt y,Value.int IntKind.i64 (IntKind.i64.wrap ((↑k:Int)+(1:Int)))=Value.int IntKind.i64 (↑(k+(1:Nat)):Int)],by kernel_rfl,(by refine mcons ?_ (mcons ?_ (mcons ?_ (mcons ?_ (mcons ?_ (mcons ?_ (mcons ?_ (mcons ?_ (mcons ?_ (mcons ?_ (mcons ?_ (mcons ?_ (mcons ?_ (mcons ?_ (mcons ?_ (mcons ?_ (mcons ?_ (mcons ?_ mnil)))))))))))))))))<;>first|rfl|exact h0|exact h1|exact h2|exact h3|trivial|(exact ⟨by omega,by show (k:Int).toNat<d.length;omega⟩)|(exact u8_inP _)|(exact congrArg Th.own h3)|(exact congrArg Th.own h1)|(exact congrArg (Value.int .i64) h1))⟩
set_option maxRecDepth 100000 in
theorem pin3_x (l:List PkDo) (kd tt ii a:Int) (b c y:List UInt8) (Q:List (Int×List UInt8)) (d dn:List UInt8) (k:Nat) (f:Nat→Value) (h0:decide ((k:Int)<(d.length:Int))=false) (h1:d=dn):∃ qs,alX Id' 14 8 [] [⟨.us (.ext (.shr 4 l.length (pkEl l))),false⟩,⟨.bx [.obj 4],true⟩,⟨.dead,true⟩,⟨.bx [.obj 5],true⟩,⟨.us (.ext (.tab (.wq 37 Q))),true⟩,⟨.us (.ext (.tab (.wq 39 Q))),true⟩,⟨.us (.byt b),false⟩,⟨.blk [.v (.int .i64 kd),.v (.int .i64 tt),.v (.int .i64 ii),.obj 6],true⟩,⟨.us (.byt c),false⟩,⟨.us (.own c),true⟩,⟨.blk [.v (.int .i64 a),.obj 12],true⟩,⟨.blk [.v (.int .i64 a),.obj 13],true⟩,⟨.us (.own dn),true⟩,⟨.us (.byt y),false⟩] ((symC (⟨Try.prog,[],[],dkHo,Id'.one,60⟩:Sy Td) [] 210 (hdC (loopsC (bodyOf Try.f3)) 2) ⟨[(14,.c (.one (.v (.int .i64 (k:Int)))))]++anyB' (writesC (hdC (loopsC (bodyOf Try.f3)) 2)) ([(10,.c (.one (.ptr 10 0)))]++tabV f 210),[⟨.us (.ext (.shr 4 l.length (pkEl l))),false⟩,⟨.bx [.obj 4],true⟩,⟨.dead,true⟩,⟨.bx [.obj 5],true⟩,⟨.us (.ext (.tab (.wq 37 Q))),true⟩,⟨.us (.ext (.tab (.wq 39 Q))),true⟩,⟨.us (.byt b),false⟩,⟨.blk [.v (.int .i64 kd),.v (.int .i64 tt),.v (.int .i64 ii),.obj 6],true⟩,⟨.us (.byt c),false⟩,⟨.us (.own c),true⟩,⟨.blk [.v (.int .i64 a),.obj 12],true⟩,⟨.blk [.v (.int .i64 a),.obj 13],true⟩,⟨.us (.own d),true⟩,⟨.us (.byt y),false⟩],0⟩).al [false])=some qs∧∀ q∈qs,q:=
 ⟨[decide ((↑k:Int)<(↑d.length:Int))=false,(Th.ext (Dk.shr 4 l.length (pkEl l)):Td)=Th.ext (Dk.shr 4 l.length (pkEl l)),(Th.ext (Dk.tab (TB.wq 37 Q)):Td)=Th.ext (Dk.tab (TB.wq 37 Q)),(Th.ext (Dk.tab (TB.wq 39 Q)):Td)=Th.ext (Dk.tab (TB.wq 39 Q)),(Th.byt b:Td)=Th.byt b,Value.int IntKind.i64 kd=Value.int IntKind.i64 kd,Value.int IntKind.i64 tt=Value.int IntKind.i64 tt,Value.int IntKind.i64 ii=Value.int IntKind.i64 ii,(Th.byt c:Td)=Th.byt c,(Th.own c:Td)=Th.own c,Value.int IntKind.i64 a=Value.int IntKind.i64 a,Value.int IntKind.i64 a=Value.int IntKind.i64 a,(Th.own d:Td)=Th.own dn,(Th.byt y:Td)=Th.byt y],by kernel_rfl,(by refine mcons ?_ (mcons ?_ (mcons ?_ (mcons ?_ (mcons ?_ (mcons ?_ (mcons ?_ (mcons ?_ (mcons ?_ (mcons ?_ (mcons ?_ (mcons ?_ (mcons ?_ (mcons ?_ mnil)))))))))))))<;>first|rfl|exact h0|exact h1|trivial|(exact ⟨by omega,by show (k:Int).toNat<d.length;omega⟩)|(exact u8_inP _)|(exact congrArg Th.own h3)|(exact congrArg Th.own h1)|(exact congrArg (Value.int .i64) h1))⟩
set_option maxRecDepth 100000 in
theorem pin3_lp (l:List PkDo) (kd tt ii a:Int) (b c y:List UInt8) (Q:List (Int×List UInt8)) (bb:List UInt8) (hb:bb.length≤1000000) {W0:World} {G:Nat→Prop} (S0:Sy Td) (hS0:S0.P=Try.prog):LoopSound S0 Id' W0 G 210 (hdC (loopsC (bodyOf Try.f3)) 2) (lpG Id' 210 (hdC (loopsC (bodyOf Try.f3)) 2) 14 [(14,.c (.one (.v (.int .i64 ((0:Nat):Int)))))] [(10,.c (.one (.ptr 10 0)))] [⟨.us (.ext (.shr 4 l.length (pkEl l))),false⟩,⟨.bx [.obj 4],true⟩,⟨.dead,true⟩,⟨.bx [.obj 5],true⟩,⟨.us (.ext (.tab (.wq 37 Q))),true⟩,⟨.us (.ext (.tab (.wq 39 Q))),true⟩,⟨.us (.byt b),false⟩,⟨.blk [.v (.int .i64 kd),.v (.int .i64 tt),.v (.int .i64 ii),.obj 6],true⟩,⟨.us (.byt c),false⟩,⟨.us (.own c),true⟩,⟨.blk [.v (.int .i64 a),.obj 12],true⟩,⟨.blk [.v (.int .i64 a),.obj 13],true⟩,⟨.us (.own (incP bb 0)),true⟩,⟨.us (.byt y),false⟩] (.leaf (.exit 8) [] [⟨.us (.ext (.shr 4 l.length (pkEl l))),false⟩,⟨.bx [.obj 4],true⟩,⟨.dead,true⟩,⟨.bx [.obj 5],true⟩,⟨.us (.ext (.tab (.wq 37 Q))),true⟩,⟨.us (.ext (.tab (.wq 39 Q))),true⟩,⟨.us (.byt b),false⟩,⟨.blk [.v (.int .i64 kd),.v (.int .i64 tt),.v (.int .i64 ii),.obj 6],true⟩,⟨.us (.byt c),false⟩,⟨.us (.own c),true⟩,⟨.blk [.v (.int .i64 a),.obj 12],true⟩,⟨.blk [.v (.int .i64 a),.obj 13],true⟩,⟨.us (.own (incP bb bb.length)),true⟩,⟨.us (.byt y),false⟩])):=by
 refine lp_sound (V:=fun k=>[(14,.c (.one (.v (.int .i64 (k:Int)))))]) (M:=(fun k=>[⟨.us (.ext (.shr 4 l.length (pkEl l))),false⟩,⟨.bx [.obj 4],true⟩,⟨.dead,true⟩,⟨.bx [.obj 5],true⟩,⟨.us (.ext (.tab (.wq 37 Q))),true⟩,⟨.us (.ext (.tab (.wq 39 Q))),true⟩,⟨.us (.byt b),false⟩,⟨.blk [.v (.int .i64 kd),.v (.int .i64 tt),.v (.int .i64 ii),.obj 6],true⟩,⟨.us (.byt c),false⟩,⟨.us (.own c),true⟩,⟨.blk [.v (.int .i64 a),.obj 12],true⟩,⟨.blk [.v (.int .i64 a),.obj 13],true⟩,⟨.us (.own (incP bb k)),true⟩,⟨.us (.byt y),false⟩]:Nat→Mem Td)) (N:=1000001) (Ux:=fun k x=>match x with|.exit 8=>some ([],([⟨.us (.ext (.shr 4 l.length (pkEl l))),false⟩,⟨.bx [.obj 4],true⟩,⟨.dead,true⟩,⟨.bx [.obj 5],true⟩,⟨.us (.ext (.tab (.wq 37 Q))),true⟩,⟨.us (.ext (.tab (.wq 39 Q))),true⟩,⟨.us (.byt b),false⟩,⟨.blk [.v (.int .i64 kd),.v (.int .i64 tt),.v (.int .i64 ii),.obj 6],true⟩,⟨.us (.byt c),false⟩,⟨.us (.own c),true⟩,⟨.blk [.v (.int .i64 a),.obj 12],true⟩,⟨.blk [.v (.int .i64 a),.obj 13],true⟩,⟨.us (.own (incP bb bb.length)),true⟩,⟨.us (.byt y),false⟩]:Mem Td))|_=>none) (X:=fun _ _=>True) (J:=fun k=>k≤bb.length) (fun k=>by kernel_rfl) (Nat.zero_le _) (fun k hk hJ f=>?_) (fun K hK k x U hk hU hX=>?_)
 ·rw [hS0]
  have hlen:=incP_len bb k
  cases hT:decide ((k:Int)<((incP bb k).length:Int)) with
  |false=>
   have hk1:k=bb.length:=by have:=of_decide_eq_false hT;omega
   exact rnd_xD (⟨Try.prog,[],[],dkHo,Id'.one,60⟩:Sy Td) rfl ((fun (W0:World) (G:Nat→Prop)=>SyOk.mk2 Try.mixed dkHo_ok (FnsR.nil) EqsOk.nil) W0 G) (pin3_x l kd tt ii a b c y Q _ _ k f hT (by rw [← hk1])) rfl trivial
  |true=>
   have hk1:k<bb.length:=by have:=of_decide_eq_true hT;omega
   have hW:IntKind.i64.wrap ((k:Int)+1)=((k+1:Nat):Int):=by rw [IntWalk.i64_in _ (by omega)];omega
   exact rnd_nD (⟨Try.prog,[],[],dkHo,Id'.one,60⟩:Sy Td) rfl ((fun (W0:World) (G:Nat→Prop)=>SyOk.mk2 Try.mixed dkHo_ok (FnsR.nil) EqsOk.nil) W0 G) (pin3_n l kd tt ii a b c y Q _ _ k f hT hW (by omega) (by rw [Int.toNat_natCast];rfl)) rfl rfl (by omega) (by omega)
 ·revert hU
  match x with
  |.normal=>intro hU;cases hU
  |.ret=>intro hU;cases hU
  |.exit n=>
   intro hU
   by_cases h:n=8
   ·subst h;simp only [Option.some.injEq] at hU;subst hU;exact hK
   ·exfalso;split at hU
    ·rename_i he;cases he;exact h rfl
    ·cases hU
set_option maxRecDepth 100000 in
theorem pin3b_n (l:List PkDo) (kd tt ii a:Int) (b c y:List UInt8) (Q:List (Int×List UInt8)) (d dn:List UInt8) (k:Nat) (f:Nat→Value) (h0:decide ((k:Int)<(d.length:Int))=true) (h1:IntKind.i64.wrap ((k:Int)+1)=((k+1:Nat):Int)) (h2:k<d.length) (h3:d.set ((k:Int).toNat) (UInt8.ofNat (IntKind.u8.wrap (((d.getD ((k:Int).toNat) 0).toNat:Int)+1)).toNat)=dn):∃ qs,alN Id' 16 [(14,.c (.one (.v (.int .i64 ((k+1:Nat):Int)))))] [⟨.us (.ext (.shr 4 l.length (pkEl l))),false⟩,⟨.bx [.obj 13],true⟩,⟨.dead,true⟩,⟨.bx [.obj 15],true⟩,⟨.dead,true⟩,⟨.dead,true⟩,⟨.us (.byt b),false⟩,⟨.blk [.v (.int .i64 kd),.v (.int .i64 tt),.v (.int .i64 ii),.obj 6],true⟩,⟨.us (.byt c),false⟩,⟨.us (.own c),true⟩,⟨.blk [.v (.int .i64 a),.obj 12],true⟩,⟨.blk [.v (.int .i64 a),.obj 14],true⟩,⟨.us (.own dn),true⟩,⟨.us (.ext (.tab (.wq 37 Q))),true⟩,⟨.us (.byt y),false⟩,⟨.us (.ext (.tab (.wq 39 Q))),true⟩] ((symC (⟨Try.prog,[],[],dkHo,Id'.one,60⟩:Sy Td) [] 210 (hdC (loopsC (bodyOf Try.f3)) 2) ⟨[(14,.c (.one (.v (.int .i64 (k:Int)))))]++anyB' (writesC (hdC (loopsC (bodyOf Try.f3)) 2)) ([(10,.c (.one (.ptr 10 0)))]++tabV f 210),[⟨.us (.ext (.shr 4 l.length (pkEl l))),false⟩,⟨.bx [.obj 13],true⟩,⟨.dead,true⟩,⟨.bx [.obj 15],true⟩,⟨.dead,true⟩,⟨.dead,true⟩,⟨.us (.byt b),false⟩,⟨.blk [.v (.int .i64 kd),.v (.int .i64 tt),.v (.int .i64 ii),.obj 6],true⟩,⟨.us (.byt c),false⟩,⟨.us (.own c),true⟩,⟨.blk [.v (.int .i64 a),.obj 12],true⟩,⟨.blk [.v (.int .i64 a),.obj 14],true⟩,⟨.us (.own d),true⟩,⟨.us (.ext (.tab (.wq 37 Q))),true⟩,⟨.us (.byt y),false⟩,⟨.us (.ext (.tab (.wq 39 Q))),true⟩],0⟩).al [true])=some qs∧∀ q∈qs,q:=
 ⟨[decide ((↑k:Int)<(↑d.length:Int))=true,(0:Int)≤IntKind.u8.wrap ((↑(d.getD (↑k:Int).toNat (0:UInt8)).toNat:Int)+(1:Int))∧IntKind.u8.wrap ((↑(d.getD (↑k:Int).toNat (0:UInt8)).toNat:Int)+(1:Int))<(256:Int),(0:Int)≤(↑k:Int)∧(↑k:Int).toNat<d.length,(0:Int)≤(↑k:Int)∧(↑k:Int).toNat<d.length,(Th.ext (Dk.shr 4 l.length (pkEl l)):Td)=Th.ext (Dk.shr 4 l.length (pkEl l)),(Th.byt b:Td)=Th.byt b,Value.int IntKind.i64 kd=Value.int IntKind.i64 kd,Value.int IntKind.i64 tt=Value.int IntKind.i64 tt,Value.int IntKind.i64 ii=Value.int IntKind.i64 ii,(Th.byt c:Td)=Th.byt c,(Th.own c:Td)=Th.own c,Value.int IntKind.i64 a=Value.int IntKind.i64 a,Value.int IntKind.i64 a=Value.int IntKind.i64 a,(Th.own (d.set ((k:Int).toNat) (UInt8.ofNat (IntKind.u8.wrap (((d.getD ((k:Int).toNat) 0).toNat:Int)+1)).toNat)):Td)=Th.own dn,(Th.ext (Dk.tab (TB.wq 37 Q)):Td)=Th.ext (Dk.tab (TB.wq 37 Q)),(Th.byt y:Td)=Th.byt y,(Th.ext (Dk.tab (TB.wq 39 Q)):Td)=Th.ext (Dk.tab (TB.wq 39 Q)),Value.int IntKind.i64 (IntKind.i64.wrap ((↑k:Int)+(1:Int)))=Value.int IntKind.i64 (↑(k+(1:Nat)):Int)],by kernel_rfl,(by refine mcons ?_ (mcons ?_ (mcons ?_ (mcons ?_ (mcons ?_ (mcons ?_ (mcons ?_ (mcons ?_ (mcons ?_ (mcons ?_ (mcons ?_ (mcons ?_ (mcons ?_ (mcons ?_ (mcons ?_ (mcons ?_ (mcons ?_ (mcons ?_ mnil)))))))))))))))))<;>first|rfl|exact h0|exact h1|exact h2|exact h3|trivial|(exact ⟨by omega,by show (k:Int).toNat<d.length;omega⟩)|(exact u8_inP _)|(exact congrArg Th.own h3)|(exact congrArg Th.own h1)|(exact congrArg (Value.int .i64) h1))⟩
set_option maxRecDepth 100000 in
theorem pin3b_x (l:List PkDo) (kd tt ii a:Int) (b c y:List UInt8) (Q:List (Int×List UInt8)) (d dn:List UInt8) (k:Nat) (f:Nat→Value) (h0:decide ((k:Int)<(d.length:Int))=false) (h1:d=dn):∃ qs,alX Id' 16 8 [] [⟨.us (.ext (.shr 4 l.length (pkEl l))),false⟩,⟨.bx [.obj 13],true⟩,⟨.dead,true⟩,⟨.bx [.obj 15],true⟩,⟨.dead,true⟩,⟨.dead,true⟩,⟨.us (.byt b),false⟩,⟨.blk [.v (.int .i64 kd),.v (.int .i64 tt),.v (.int .i64 ii),.obj 6],true⟩,⟨.us (.byt c),false⟩,⟨.us (.own c),true⟩,⟨.blk [.v (.int .i64 a),.obj 12],true⟩,⟨.blk [.v (.int .i64 a),.obj 14],true⟩,⟨.us (.own dn),true⟩,⟨.us (.ext (.tab (.wq 37 Q))),true⟩,⟨.us (.byt y),false⟩,⟨.us (.ext (.tab (.wq 39 Q))),true⟩] ((symC (⟨Try.prog,[],[],dkHo,Id'.one,60⟩:Sy Td) [] 210 (hdC (loopsC (bodyOf Try.f3)) 2) ⟨[(14,.c (.one (.v (.int .i64 (k:Int)))))]++anyB' (writesC (hdC (loopsC (bodyOf Try.f3)) 2)) ([(10,.c (.one (.ptr 10 0)))]++tabV f 210),[⟨.us (.ext (.shr 4 l.length (pkEl l))),false⟩,⟨.bx [.obj 13],true⟩,⟨.dead,true⟩,⟨.bx [.obj 15],true⟩,⟨.dead,true⟩,⟨.dead,true⟩,⟨.us (.byt b),false⟩,⟨.blk [.v (.int .i64 kd),.v (.int .i64 tt),.v (.int .i64 ii),.obj 6],true⟩,⟨.us (.byt c),false⟩,⟨.us (.own c),true⟩,⟨.blk [.v (.int .i64 a),.obj 12],true⟩,⟨.blk [.v (.int .i64 a),.obj 14],true⟩,⟨.us (.own d),true⟩,⟨.us (.ext (.tab (.wq 37 Q))),true⟩,⟨.us (.byt y),false⟩,⟨.us (.ext (.tab (.wq 39 Q))),true⟩],0⟩).al [false])=some qs∧∀ q∈qs,q:=
 ⟨[decide ((↑k:Int)<(↑d.length:Int))=false,(Th.ext (Dk.shr 4 l.length (pkEl l)):Td)=Th.ext (Dk.shr 4 l.length (pkEl l)),(Th.byt b:Td)=Th.byt b,Value.int IntKind.i64 kd=Value.int IntKind.i64 kd,Value.int IntKind.i64 tt=Value.int IntKind.i64 tt,Value.int IntKind.i64 ii=Value.int IntKind.i64 ii,(Th.byt c:Td)=Th.byt c,(Th.own c:Td)=Th.own c,Value.int IntKind.i64 a=Value.int IntKind.i64 a,Value.int IntKind.i64 a=Value.int IntKind.i64 a,(Th.own d:Td)=Th.own dn,(Th.ext (Dk.tab (TB.wq 37 Q)):Td)=Th.ext (Dk.tab (TB.wq 37 Q)),(Th.byt y:Td)=Th.byt y,(Th.ext (Dk.tab (TB.wq 39 Q)):Td)=Th.ext (Dk.tab (TB.wq 39 Q))],by kernel_rfl,(by refine mcons ?_ (mcons ?_ (mcons ?_ (mcons ?_ (mcons ?_ (mcons ?_ (mcons ?_ (mcons ?_ (mcons ?_ (mcons ?_ (mcons ?_ (mcons ?_ (mcons ?_ (mcons ?_ mnil)))))))))))))<;>first|rfl|exact h0|exact h1|trivial|(exact ⟨by omega,by show (k:Int).toNat<d.length;omega⟩)|(exact u8_inP _)|(exact congrArg Th.own h3)|(exact congrArg Th.own h1)|(exact congrArg (Value.int .i64) h1))⟩
set_option maxRecDepth 100000 in
theorem pin3b_lp (l:List PkDo) (kd tt ii a:Int) (b c y:List UInt8) (Q:List (Int×List UInt8)) (bb:List UInt8) (hb:bb.length≤1000000) {W0:World} {G:Nat→Prop} (S0:Sy Td) (hS0:S0.P=Try.prog):LoopSound S0 Id' W0 G 210 (hdC (loopsC (bodyOf Try.f3)) 2) (lpG Id' 210 (hdC (loopsC (bodyOf Try.f3)) 2) 16 [(14,.c (.one (.v (.int .i64 ((0:Nat):Int)))))] [(10,.c (.one (.ptr 10 0)))] [⟨.us (.ext (.shr 4 l.length (pkEl l))),false⟩,⟨.bx [.obj 13],true⟩,⟨.dead,true⟩,⟨.bx [.obj 15],true⟩,⟨.dead,true⟩,⟨.dead,true⟩,⟨.us (.byt b),false⟩,⟨.blk [.v (.int .i64 kd),.v (.int .i64 tt),.v (.int .i64 ii),.obj 6],true⟩,⟨.us (.byt c),false⟩,⟨.us (.own c),true⟩,⟨.blk [.v (.int .i64 a),.obj 12],true⟩,⟨.blk [.v (.int .i64 a),.obj 14],true⟩,⟨.us (.own (incP bb 0)),true⟩,⟨.us (.ext (.tab (.wq 37 Q))),true⟩,⟨.us (.byt y),false⟩,⟨.us (.ext (.tab (.wq 39 Q))),true⟩] (.leaf (.exit 8) [] [⟨.us (.ext (.shr 4 l.length (pkEl l))),false⟩,⟨.bx [.obj 13],true⟩,⟨.dead,true⟩,⟨.bx [.obj 15],true⟩,⟨.dead,true⟩,⟨.dead,true⟩,⟨.us (.byt b),false⟩,⟨.blk [.v (.int .i64 kd),.v (.int .i64 tt),.v (.int .i64 ii),.obj 6],true⟩,⟨.us (.byt c),false⟩,⟨.us (.own c),true⟩,⟨.blk [.v (.int .i64 a),.obj 12],true⟩,⟨.blk [.v (.int .i64 a),.obj 14],true⟩,⟨.us (.own (incP bb bb.length)),true⟩,⟨.us (.ext (.tab (.wq 37 Q))),true⟩,⟨.us (.byt y),false⟩,⟨.us (.ext (.tab (.wq 39 Q))),true⟩])):=by
 refine lp_sound (V:=fun k=>[(14,.c (.one (.v (.int .i64 (k:Int)))))]) (M:=(fun k=>[⟨.us (.ext (.shr 4 l.length (pkEl l))),false⟩,⟨.bx [.obj 13],true⟩,⟨.dead,true⟩,⟨.bx [.obj 15],true⟩,⟨.dead,true⟩,⟨.dead,true⟩,⟨.us (.byt b),false⟩,⟨.blk [.v (.int .i64 kd),.v (.int .i64 tt),.v (.int .i64 ii),.obj 6],true⟩,⟨.us (.byt c),false⟩,⟨.us (.own c),true⟩,⟨.blk [.v (.int .i64 a),.obj 12],true⟩,⟨.blk [.v (.int .i64 a),.obj 14],true⟩,⟨.us (.own (incP bb k)),true⟩,⟨.us (.ext (.tab (.wq 37 Q))),true⟩,⟨.us (.byt y),false⟩,⟨.us (.ext (.tab (.wq 39 Q))),true⟩]:Nat→Mem Td)) (N:=1000001) (Ux:=fun k x=>match x with|.exit 8=>some ([],([⟨.us (.ext (.shr 4 l.length (pkEl l))),false⟩,⟨.bx [.obj 13],true⟩,⟨.dead,true⟩,⟨.bx [.obj 15],true⟩,⟨.dead,true⟩,⟨.dead,true⟩,⟨.us (.byt b),false⟩,⟨.blk [.v (.int .i64 kd),.v (.int .i64 tt),.v (.int .i64 ii),.obj 6],true⟩,⟨.us (.byt c),false⟩,⟨.us (.own c),true⟩,⟨.blk [.v (.int .i64 a),.obj 12],true⟩,⟨.blk [.v (.int .i64 a),.obj 14],true⟩,⟨.us (.own (incP bb bb.length)),true⟩,⟨.us (.ext (.tab (.wq 37 Q))),true⟩,⟨.us (.byt y),false⟩,⟨.us (.ext (.tab (.wq 39 Q))),true⟩]:Mem Td))|_=>none) (X:=fun _ _=>True) (J:=fun k=>k≤bb.length) (fun k=>by kernel_rfl) (Nat.zero_le _) (fun k hk hJ f=>?_) (fun K hK k x U hk hU hX=>?_)
 ·rw [hS0]
  have hlen:=incP_len bb k
  cases hT:decide ((k:Int)<((incP bb k).length:Int)) with
  |false=>
   have hk1:k=bb.length:=by have:=of_decide_eq_false hT;omega
   exact rnd_xD (⟨Try.prog,[],[],dkHo,Id'.one,60⟩:Sy Td) rfl ((fun (W0:World) (G:Nat→Prop)=>SyOk.mk2 Try.mixed dkHo_ok (FnsR.nil) EqsOk.nil) W0 G) (pin3b_x l kd tt ii a b c y Q _ _ k f hT (by rw [← hk1])) rfl trivial
  |true=>
   have hk1:k<bb.length:=by have:=of_decide_eq_true hT;omega
   have hW:IntKind.i64.wrap ((k:Int)+1)=((k+1:Nat):Int):=by rw [IntWalk.i64_in _ (by omega)];omega
   exact rnd_nD (⟨Try.prog,[],[],dkHo,Id'.one,60⟩:Sy Td) rfl ((fun (W0:World) (G:Nat→Prop)=>SyOk.mk2 Try.mixed dkHo_ok (FnsR.nil) EqsOk.nil) W0 G) (pin3b_n l kd tt ii a b c y Q _ _ k f hT hW (by omega) (by rw [Int.toNat_natCast];rfl)) rfl rfl (by omega) (by omega)
 ·revert hU
  match x with
  |.normal=>intro hU;cases hU
  |.ret=>intro hU;cases hU
  |.exit n=>
   intro hU
   by_cases h:n=8
   ·subst h;simp only [Option.some.injEq] at hU;subst hU;exact hK
   ·exfalso;split at hU
    ·rename_i he;cases he;exact h rfl
    ·cases hU
end Go.Proofs.Ytdenmoiaiemokaa
set_option linter.unusedVariables false
set_option linter.unusedSimpArgs false
namespace Go.Proofs.Ytdenmoiaiemokaa
open Go.RowKit
structure Okq (Q:List (Int×List UInt8)):Prop where
 n:Q.length≤256
 b:∀ q∈Q,q.2.length≤1000000
theorem okq_sd {Q:List (Int×List UInt8)} (h:Okq Q) {a:Int} {x:List UInt8} (hx:x.length≤1000000):Okq (sdQ Q a x):=by
 unfold sdQ
 cases (decide (a<0)||decide (a>8)) with
 |true=>exact h
 |false=>
  cases h1:decide ((Q.length:Int)≥256) with
  |true=>exact h
  |false=>
   have:=of_decide_eq_false h1
   refine ⟨by simp only [cond_false,List.length_append,List.length_cons,List.length_nil];omega,fun q hq=>?_⟩
   simp only [cond_false,List.mem_append,List.mem_cons,List.not_mem_nil,or_false] at hq
   rcases hq with hq|rfl
   ·exact h.b q hq
   ·exact hx
theorem okq_db {Q:List (Int×List UInt8)} (h:Okq Q) (i:Int):Okq (dbQ Q i):=by
 unfold dbQ
 cases h0:(decide (i<0)||decide (i≥(Q.length:Int))) with
 |true=>exact h
 |false=>exact okq_sd h (h.b _ (getD_mem (bad_not h0)))
theorem okq_dbN {Q:List (Int×List UInt8)} (h:Okq Q):∀ k,Okq (dbN Q k)
 |0=>h
 |k+1=>okq_db (okq_dbN h k) 0
theorem okq_cut {Q:List (Int×List UInt8)} (h:Okq Q) (a:Int):Okq (Q.filter (keepP a)):=⟨Nat.le_trans (List.length_filter_le _ _) h.n,fun q hq=>h.b q (List.mem_filter.1 hq).1⟩
theorem okq_del {Q:List (Int×List UInt8)} (h:Okq Q) (n:Nat):Okq (Q.take n++Q.drop (n+1)):=⟨by have:=h.n;rw [List.length_append,List.length_take,List.length_drop];omega,fun q hq=>by
 rcases List.mem_append.1 hq with hq|hq
 ·exact h.b q (List.mem_of_mem_take hq)
 ·exact h.b q (List.mem_of_mem_drop hq)⟩
set_option maxRecDepth 100000 in
theorem pin4_n (l:List PkDo) (kd tt ii a:Int) (b c y:List UInt8) (Q Qn:List (Int×List UInt8)) (k:Nat) (f:Nat→Value) (h0:(decide ((k:Int)<260)&&true)=true) (h1:IntKind.i64.wrap ((k:Int)+1)=((k+1:Nat):Int)) (h2:∀ q∈Q,q.2.length≤1000000) (h3:Q.length≤1000) (h4:dbQ Q 0=Qn):∃ qs,alN Id' 10 [(15,.c (.one (.v (.int .i64 ((k+1:Nat):Int))))),(8,svV (.bool true))] [⟨.us (.ext (.shr 4 l.length (pkEl l))),false⟩,⟨.bx [.obj 10],true⟩,⟨.dead,true⟩,⟨.bx [.obj 11],true⟩,⟨.dead,true⟩,⟨.dead,true⟩,⟨.us (.byt b),false⟩,⟨.blk [.v (.int .i64 kd),.v (.int .i64 tt),.v (.int .i64 ii),.obj 6],true⟩,⟨.us (.byt c),false⟩,⟨.us (.own c),true⟩,⟨.us (.ext (.tab (.wq 37 Qn))),true⟩,⟨.us (.ext (.tab (.wq 39 Qn))),true⟩] ((symC (⟨Try.prog,[(24,ctrF Id' C_dbl hardD)],[],dkHo,Id'.one,60⟩:Sy Td) [] 210 (hdC (loopsC (bodyOf Try.f3)) 3) ⟨[(15,.c (.one (.v (.int .i64 (k:Int))))),(8,svV (.bool true))]++anyB' (writesC (hdC (loopsC (bodyOf Try.f3)) 3)) ([(3,.c (.one (.ptr 1 0))),(4,.c (.one (.ptr 3 0)))]++tabV f 210),[⟨.us (.ext (.shr 4 l.length (pkEl l))),false⟩,⟨.bx [.obj 10],true⟩,⟨.dead,true⟩,⟨.bx [.obj 11],true⟩,⟨.dead,true⟩,⟨.dead,true⟩,⟨.us (.byt b),false⟩,⟨.blk [.v (.int .i64 kd),.v (.int .i64 tt),.v (.int .i64 ii),.obj 6],true⟩,⟨.us (.byt c),false⟩,⟨.us (.own c),true⟩,⟨.us (.ext (.tab (.wq 37 Q))),true⟩,⟨.us (.ext (.tab (.wq 39 Q))),true⟩],0⟩).al [true])=some qs∧∀ q∈qs,q:=
 ⟨[(decide ((↑k:Int)<(260:Int))&&true)=true,Q=Q,∀ (q:Int×List UInt8),q∈Q→q.snd.length≤(1000000:Nat),Q.length≤(1000:Nat),(Th.ext (Dk.shr 4 l.length (pkEl l)):Td)=Th.ext (Dk.shr 4 l.length (pkEl l)),(Th.byt b:Td)=Th.byt b,Value.int IntKind.i64 kd=Value.int IntKind.i64 kd,Value.int IntKind.i64 tt=Value.int IntKind.i64 tt,Value.int IntKind.i64 ii=Value.int IntKind.i64 ii,(Th.byt c:Td)=Th.byt c,(Th.own c:Td)=Th.own c,(Th.ext (Dk.tab (TB.wq 37 (dbQ Q (0:Int)))):Td)=Th.ext (Dk.tab (TB.wq 37 Qn)),(Th.ext (Dk.tab (TB.wq 39 (dbQ Q (0:Int)))):Td)=Th.ext (Dk.tab (TB.wq 39 Qn)),Value.int IntKind.i64 (IntKind.i64.wrap ((↑k:Int)+(1:Int)))=Value.int IntKind.i64 (↑(k+(1:Nat)):Int),Value.bool true=Value.bool true],by kernel_rfl,(by refine mcons ?_ (mcons ?_ (mcons ?_ (mcons ?_ (mcons ?_ (mcons ?_ (mcons ?_ (mcons ?_ (mcons ?_ (mcons ?_ (mcons ?_ (mcons ?_ (mcons ?_ (mcons ?_ (mcons ?_ mnil))))))))))))))<;>first|rfl|exact h0|exact h1|exact h2|exact h3|exact h4|trivial|(exact fun _=>rfl)|(exact congrArg (fun x=>(Th.ext (Dk.tab (TB.wq 37 x)):Td)) h4)|(exact congrArg (fun x=>(Th.ext (Dk.tab (TB.wq 39 x)):Td)) h4)|(exact congrArg (fun x=>(Th.ext (Dk.tab (TB.wq 37 x)):Td)) h1)|(exact congrArg (fun x=>(Th.ext (Dk.tab (TB.wq 39 x)):Td)) h1)|(exact congrArg (Value.int .i64) h1))⟩
set_option maxRecDepth 100000 in
theorem pin4_x (l:List PkDo) (kd tt ii a:Int) (b c y:List UInt8) (Q Qn:List (Int×List UInt8)) (k:Nat) (f:Nat→Value) (h0:(decide ((k:Int)<260)&&true)=false) (h1:Q=Qn):∃ qs,alX Id' 10 3 [(8,svV (.bool true))] [⟨.us (.ext (.shr 4 l.length (pkEl l))),false⟩,⟨.bx [.obj 10],true⟩,⟨.dead,true⟩,⟨.bx [.obj 11],true⟩,⟨.dead,true⟩,⟨.dead,true⟩,⟨.us (.byt b),false⟩,⟨.blk [.v (.int .i64 kd),.v (.int .i64 tt),.v (.int .i64 ii),.obj 6],true⟩,⟨.us (.byt c),false⟩,⟨.us (.own c),true⟩,⟨.us (.ext (.tab (.wq 37 Qn))),true⟩,⟨.us (.ext (.tab (.wq 39 Qn))),true⟩] ((symC (⟨Try.prog,[(24,ctrF Id' C_dbl hardD)],[],dkHo,Id'.one,60⟩:Sy Td) [] 210 (hdC (loopsC (bodyOf Try.f3)) 3) ⟨[(15,.c (.one (.v (.int .i64 (k:Int))))),(8,svV (.bool true))]++anyB' (writesC (hdC (loopsC (bodyOf Try.f3)) 3)) ([(3,.c (.one (.ptr 1 0))),(4,.c (.one (.ptr 3 0)))]++tabV f 210),[⟨.us (.ext (.shr 4 l.length (pkEl l))),false⟩,⟨.bx [.obj 10],true⟩,⟨.dead,true⟩,⟨.bx [.obj 11],true⟩,⟨.dead,true⟩,⟨.dead,true⟩,⟨.us (.byt b),false⟩,⟨.blk [.v (.int .i64 kd),.v (.int .i64 tt),.v (.int .i64 ii),.obj 6],true⟩,⟨.us (.byt c),false⟩,⟨.us (.own c),true⟩,⟨.us (.ext (.tab (.wq 37 Q))),true⟩,⟨.us (.ext (.tab (.wq 39 Q))),true⟩],0⟩).al [false])=some qs∧∀ q∈qs,q:=
 ⟨[(decide ((↑k:Int)<(260:Int))&&true)=false,(Th.ext (Dk.shr 4 l.length (pkEl l)):Td)=Th.ext (Dk.shr 4 l.length (pkEl l)),(Th.byt b:Td)=Th.byt b,Value.int IntKind.i64 kd=Value.int IntKind.i64 kd,Value.int IntKind.i64 tt=Value.int IntKind.i64 tt,Value.int IntKind.i64 ii=Value.int IntKind.i64 ii,(Th.byt c:Td)=Th.byt c,(Th.own c:Td)=Th.own c,(Th.ext (Dk.tab (TB.wq 37 Q)):Td)=Th.ext (Dk.tab (TB.wq 37 Qn)),(Th.ext (Dk.tab (TB.wq 39 Q)):Td)=Th.ext (Dk.tab (TB.wq 39 Qn)),Value.bool true=Value.bool true],by kernel_rfl,(by refine mcons ?_ (mcons ?_ (mcons ?_ (mcons ?_ (mcons ?_ (mcons ?_ (mcons ?_ (mcons ?_ (mcons ?_ (mcons ?_ (mcons ?_ mnil))))))))))<;>first|rfl|exact h0|exact h1|trivial|(exact fun _=>rfl)|(exact congrArg (fun x=>(Th.ext (Dk.tab (TB.wq 37 x)):Td)) h4)|(exact congrArg (fun x=>(Th.ext (Dk.tab (TB.wq 39 x)):Td)) h4)|(exact congrArg (fun x=>(Th.ext (Dk.tab (TB.wq 37 x)):Td)) h1)|(exact congrArg (fun x=>(Th.ext (Dk.tab (TB.wq 39 x)):Td)) h1)|(exact congrArg (Value.int .i64) h1))⟩
set_option maxRecDepth 100000 in
theorem pin4_lp (l:List PkDo) (kd tt ii a:Int) (b c y:List UInt8) (Q:List (Int×List UInt8)) (hq:Okq Q) {W0:World} {G:Nat→Prop} (S0:Sy Td) (hS0:S0.P=Try.prog):LoopSound S0 Id' W0 G 210 (hdC (loopsC (bodyOf Try.f3)) 3) (lpG Id' 210 (hdC (loopsC (bodyOf Try.f3)) 3) 10 [(15,.c (.one (.v (.int .i64 ((0:Nat):Int))))),(8,svV (.bool true))] [(3,.c (.one (.ptr 1 0))),(4,.c (.one (.ptr 3 0)))] [⟨.us (.ext (.shr 4 l.length (pkEl l))),false⟩,⟨.bx [.obj 10],true⟩,⟨.dead,true⟩,⟨.bx [.obj 11],true⟩,⟨.dead,true⟩,⟨.dead,true⟩,⟨.us (.byt b),false⟩,⟨.blk [.v (.int .i64 kd),.v (.int .i64 tt),.v (.int .i64 ii),.obj 6],true⟩,⟨.us (.byt c),false⟩,⟨.us (.own c),true⟩,⟨.us (.ext (.tab (.wq 37 (dbN Q 0)))),true⟩,⟨.us (.ext (.tab (.wq 39 (dbN Q 0)))),true⟩] (.leaf (.exit 3) [(8,svV (.bool true))] [⟨.us (.ext (.shr 4 l.length (pkEl l))),false⟩,⟨.bx [.obj 10],true⟩,⟨.dead,true⟩,⟨.bx [.obj 11],true⟩,⟨.dead,true⟩,⟨.dead,true⟩,⟨.us (.byt b),false⟩,⟨.blk [.v (.int .i64 kd),.v (.int .i64 tt),.v (.int .i64 ii),.obj 6],true⟩,⟨.us (.byt c),false⟩,⟨.us (.own c),true⟩,⟨.us (.ext (.tab (.wq 37 (dbN Q 260)))),true⟩,⟨.us (.ext (.tab (.wq 39 (dbN Q 260)))),true⟩])):=by
 refine lp_sound (V:=fun k=>[(15,.c (.one (.v (.int .i64 (k:Int))))),(8,svV (.bool true))]) (M:=(fun k=>[⟨.us (.ext (.shr 4 l.length (pkEl l))),false⟩,⟨.bx [.obj 10],true⟩,⟨.dead,true⟩,⟨.bx [.obj 11],true⟩,⟨.dead,true⟩,⟨.dead,true⟩,⟨.us (.byt b),false⟩,⟨.blk [.v (.int .i64 kd),.v (.int .i64 tt),.v (.int .i64 ii),.obj 6],true⟩,⟨.us (.byt c),false⟩,⟨.us (.own c),true⟩,⟨.us (.ext (.tab (.wq 37 (dbN Q k)))),true⟩,⟨.us (.ext (.tab (.wq 39 (dbN Q k)))),true⟩]:Nat→Mem Td)) (N:=260) (Ux:=fun k x=>match x with|.exit 3=>some ([(8,svV (.bool true))],([⟨.us (.ext (.shr 4 l.length (pkEl l))),false⟩,⟨.bx [.obj 10],true⟩,⟨.dead,true⟩,⟨.bx [.obj 11],true⟩,⟨.dead,true⟩,⟨.dead,true⟩,⟨.us (.byt b),false⟩,⟨.blk [.v (.int .i64 kd),.v (.int .i64 tt),.v (.int .i64 ii),.obj 6],true⟩,⟨.us (.byt c),false⟩,⟨.us (.own c),true⟩,⟨.us (.ext (.tab (.wq 37 (dbN Q 260)))),true⟩,⟨.us (.ext (.tab (.wq 39 (dbN Q 260)))),true⟩]:Mem Td))|_=>none) (X:=fun _ _=>True) (J:=fun k=>k≤260) (fun k=>by kernel_rfl) (Nat.zero_le _) (fun k hk hJ f=>?_) (fun K hK k x U hk hU hX=>?_)
 ·rw [hS0]
  have ho:=okq_dbN hq k
  cases hT:(decide ((k:Int)<260)&&true) with
  |false=>
   have hk1:k=260:=by simp at hT;omega
   exact rnd_xD (⟨Try.prog,[(24,ctrF Id' C_dbl hardD)],[],dkHo,Id'.one,60⟩:Sy Td) rfl ((fun (W0:World) (G:Nat→Prop)=>SyOk.mk2 Try.mixed dkHo_ok (FnsR.cons (R_dbl) (FnsR.nil)) EqsOk.nil) W0 G) (pin4_x l kd tt ii a b c y _ _ k f hT (by rw [← hk1])) rfl trivial
  |true=>
   have hk1:k<260:=by simp at hT;omega
   have hW:IntKind.i64.wrap ((k:Int)+1)=((k+1:Nat):Int):=by rw [IntWalk.i64_in _ (by omega)];omega
   exact rnd_nD (⟨Try.prog,[(24,ctrF Id' C_dbl hardD)],[],dkHo,Id'.one,60⟩:Sy Td) rfl ((fun (W0:World) (G:Nat→Prop)=>SyOk.mk2 Try.mixed dkHo_ok (FnsR.cons (R_dbl) (FnsR.nil)) EqsOk.nil) W0 G) (pin4_n l kd tt ii a b c y _ _ k f hT hW ho.b (by have:=ho.n;omega) rfl) rfl rfl (by omega) (by omega)
 ·revert hU
  match x with
  |.normal=>intro hU;cases hU
  |.ret=>intro hU;cases hU
  |.exit n=>
   intro hU
   by_cases h:n=3
   ·subst h;simp only [Option.some.injEq] at hU;subst hU;exact hK
   ·exfalso;split at hU
    ·rename_i he;cases he;exact h rfl
    ·cases hU
end Go.Proofs.Ytdenmoiaiemokaa
set_option linter.unusedVariables false
set_option linter.unusedSimpArgs false
namespace Go.Proofs.Ytdenmoiaiemokaa
open Go.RowKit
set_option maxRecDepth 100000 in
theorem nlenV_w0 (Q:List (Int×List UInt8)) :∃ qs,wayV ((runFn (⟨Try.prog,[],[],dkHo,Id'.one,60⟩:Sy Td) [] Try.f27 [.one (.ptr 0 0)] (roM [⟨.bx [.obj 1],true⟩,⟨.us (.ext (.tab (.wq 37 Q))),true⟩])).al []) (fun u=>u=.int .i64 (Q.length:Int))=some qs∧∀ q∈qs,q:=
 ⟨[Value.int IntKind.i64 (↑(TB.wq 37 Q).n:Int)=Value.int IntKind.i64 (↑Q.length:Int)],by kernel_rfl,(by refine mcons ?_ mnil<;>first|rfl|trivial)⟩
def C_nlenV:CtrV Td:=fun us sub=>match us,sub with
 |[.one (.ptr 0 0)],[⟨.bx [.obj 1],false⟩,⟨.us (.ext (.tab (.wq 37 Q))),false⟩]=>some ([],.int .i64 (Q.length:Int))
 |_,_=>none
set_option maxRecDepth 100000 in
theorem C_nlenV_ok:CtrVOk Try.prog Id' 27 C_nlenV:=by
 intro us sub ps x h hp w e vs hM ha
 unfold C_nlenV at h
 split at h
 ·rename_i Q
  simp only [Option.some.injEq,Prod.mk.injEq] at h
  obtain ⟨rfl,rfl⟩:=h
  exact ctrv_way (I:=Id') (fun (W0:World) (G:Nat→Prop)=>SyOk.mk2 Try.mixed dkHo_ok (FnsR.nil) EqsOk.nil) rfl Try.func27 (by kernel_rfl) (fun W0 G=>LpsOk.nil _) (cs:=[]) (by kernel_rfl) (nlenV_w0 Q ) w e vs hM ha
 ·cases h
theorem R_nlenV:RowOk Try.prog Id' hardD 27 (ctrV C_nlenV hardD):=ctrV_ok Try.call27 C_nlenV_ok
end Go.Proofs.Ytdenmoiaiemokaa
