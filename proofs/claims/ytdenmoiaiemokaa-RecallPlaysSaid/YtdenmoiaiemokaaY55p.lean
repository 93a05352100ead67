/- Y53 Y50 Y54 Y55. -/
import Derived.Test.YtdenmoiaiemokaaY52p
import Derived.Test.YtdenmoiaiemokaaH13p
import Derived.Test.YtdenmoiaiemokaaY38p
import Derived.Test.YtdenmoiaiemokaaY13p
set_option maxRecDepth 100000
set_option linter.unusedSimpArgs false
set_option linter.unusedVariables false
namespace Go.Proofs.Ytdenmoiaiemokaa
open Go.RowKit
theorem alq_n1 (Y:List Rw) (kd c m a b:Int) (X Xn:List Rw) (k:Nat) (f:Nat→Value) (h0:decide ((k:Int)<(Y.length:Int))=true) (h1:IntKind.i64.wrap ((k:Int)+1)=((k+1:Nat):Int)) (h2:0≤(k:Int)∧(k:Int).toNat<Y.length) (h3:(decide ((k:Int)≥(Y.length:Int))||!((Y.getD k Rw.zero).is.getD 0 0==(Y.getD k Rw.zero).is.getD 0 0&&((Y.getD k Rw.zero).is.getD 1 0==(Y.getD k Rw.zero).is.getD 1 0&&true))||(Y.getD k Rw.zero).is.getD 2 0 != (Y.getD k Rw.zero).is.getD 2 0)=false) (h4:((Y.getD k Rw.zero).is.getD 2 0==c)=true) (h5:X++[(nr2 (Y.getD k Rw.zero))]=Xn) (h6:X.length≤10000):∃ qs,alN Id' 6 [(9,.c (.one (.obj 6))),(10,.c (.one (.v (.int .i64 ((k+1:Nat):Int)))))] [⟨.bx [.obj 2],true⟩,⟨.bx [.obj 3],true⟩,⟨.us (.ext (.flat (.rw 72 [false,false,false] Y))),true⟩,⟨.us (.ext (.flat (.rw 176 [false,false,false] Y))),true⟩,⟨.blk [.v (.int .i64 kd),.v (.int .i64 c),.v (.int .i64 m),.v (.int .i64 a),.v (.int .i64 b)],true⟩,⟨.us (.ext (.flat (.rw 72 [false,false,false] Y))),true⟩,⟨.us (.ext (.flat (.rw 57 [false,false] Xn))),true⟩] ((symC (⟨Try.prog,[],[E_of Try.prog 57,E_of Try.prog 72],dkHo,Id'.one,60⟩:Sy Td) [] 112 (hdC (loopsC (bodyOf Try.f56)) 0) ⟨[(9,.c (.one (.obj 6))),(10,.c (.one (.v (.int .i64 (k:Int)))))]++anyB' (writesC (hdC (loopsC (bodyOf Try.f56)) 0)) ([(0,.c (.one (.ptr 0 0))),(1,.c (.one (.ptr 1 0))),(5,.c (.one (.ptr 4 0))),(7,.c (.one (.obj 5)))]++tabV f 112),[⟨.bx [.obj 2],true⟩,⟨.bx [.obj 3],true⟩,⟨.us (.ext (.flat (.rw 72 [false,false,false] Y))),true⟩,⟨.us (.ext (.flat (.rw 176 [false,false,false] Y))),true⟩,⟨.blk [.v (.int .i64 kd),.v (.int .i64 c),.v (.int .i64 m),.v (.int .i64 a),.v (.int .i64 b)],true⟩,⟨.us (.ext (.flat (.rw 72 [false,false,false] Y))),true⟩,⟨.us (.ext (.flat (.rw 57 [false,false] X))),true⟩],0⟩).al [true,false,true])=some qs∧∀ q∈qs,q:=
 ⟨[decide ((↑k:Int)<(↑(FL.rw 176 [false,false,false] Y).n:Int))=true,(!(decide ((↑k:Int)≥(↑(FL.rw 72 [false,false,false] Y).n:Int))||!((Y.getD (↑k:Int).toNat Rw.zero).is.getD (0:Nat) (0:Int)==(Y.getD (↑k:Int).toNat Rw.zero).is.getD (0:Nat) (0:Int)&&((Y.getD (↑k:Int).toNat Rw.zero).is.getD ((0:Nat)+(1:Nat)) (0:Int)==(Y.getD (↑k:Int).toNat Rw.zero).is.getD ((0:Nat)+(1:Nat)) (0:Int)&&true)))&&true)=true→(0:Int)≤(↑k:Int)∧(↑k:Int).toNat<(FL.rw 176 [false,false,false] Y).n,(!(decide ((↑k:Int)≥(↑(FL.rw 72 [false,false,false] Y).n:Int))||!((Y.getD (↑k:Int).toNat Rw.zero).is.getD (0:Nat) (0:Int)==(Y.getD (↑k:Int).toNat Rw.zero).is.getD (0:Nat) (0:Int)&&((Y.getD (↑k:Int).toNat Rw.zero).is.getD ((0:Nat)+(1:Nat)) (0:Int)==(Y.getD (↑k:Int).toNat Rw.zero).is.getD ((0:Nat)+(1:Nat)) (0:Int)&&true)))&&true)=true→(0:Int)≤(↑k:Int)∧(↑k:Int).toNat<(FL.rw 72 [false,false,false] Y).n,(!decide ((↑k:Int)≥(↑(FL.rw 72 [false,false,false] Y).n:Int))&&true)=true→(0:Int)≤(↑k:Int)∧(↑k:Int).toNat<(FL.rw 176 [false,false,false] Y).n,(!decide ((↑k:Int)≥(↑(FL.rw 72 [false,false,false] Y).n:Int))&&true)=true→(0:Int)≤(↑k:Int)∧(↑k:Int).toNat<(FL.rw 72 [false,false,false] Y).n,(decide ((↑k:Int)≥(↑(FL.rw 72 [false,false,false] Y).n:Int))||!((Y.getD (↑k:Int).toNat Rw.zero).is.getD (0:Nat) (0:Int)==(Y.getD (↑k:Int).toNat Rw.zero).is.getD (0:Nat) (0:Int)&&((Y.getD (↑k:Int).toNat Rw.zero).is.getD ((0:Nat)+(1:Nat)) (0:Int)==(Y.getD (↑k:Int).toNat Rw.zero).is.getD ((0:Nat)+(1:Nat)) (0:Int)&&true))||(Y.getD (↑k:Int).toNat Rw.zero).is.getD ((0:Nat)+(1:Nat)+(1:Nat)) (0:Int) != (Y.getD (↑k:Int).toNat Rw.zero).is.getD ((0:Nat)+(1:Nat)+(1:Nat)) (0:Int))=false,(0:Int)≤(↑k:Int)∧(↑k:Int).toNat<(FL.rw 176 [false,false,false] Y).n,((Y.getD (↑k:Int).toNat Rw.zero).is.getD ((0:Nat)+(1:Nat)+(1:Nat)) (0:Int)==c)=true,X.length+[Rw.mk [(Y.getD (↑k:Int).toNat Rw.zero).is.getD (0:Nat) (0:Int),(Y.getD (↑k:Int).toNat Rw.zero).is.getD ((0:Nat)+(1:Nat)) (0:Int)] []].length≤(100000:Nat),(0:Int)≤(↑k:Int)∧(↑k:Int).toNat<(FL.rw 176 [false,false,false] Y).n,(Th.ext (Dk.flat (FL.rw 72 [false,false,false] Y)):Td)=Th.ext (Dk.flat (FL.rw 72 [false,false,false] Y)),(Th.ext (Dk.flat (FL.rw 176 [false,false,false] Y)):Td)=Th.ext (Dk.flat (FL.rw 176 [false,false,false] Y)),Value.int IntKind.i64 kd=Value.int IntKind.i64 kd,Value.int IntKind.i64 c=Value.int IntKind.i64 c,Value.int IntKind.i64 m=Value.int IntKind.i64 m,Value.int IntKind.i64 a=Value.int IntKind.i64 a,Value.int IntKind.i64 b=Value.int IntKind.i64 b,(Th.ext (Dk.flat (FL.rw 72 [false,false,false] Y)):Td)=Th.ext (Dk.flat (FL.rw 72 [false,false,false] Y)),(Th.ext (Dk.flat (FL.rw 57 [false,false] (X++[(nr2 (Y.getD k Rw.zero))]))):Td)=Th.ext (Dk.flat (FL.rw 57 [false,false] Xn)),Value.int IntKind.i64 (IntKind.i64.wrap ((↑k:Int)+(1:Int)))=Value.int IntKind.i64 (↑(k+(1:Nat)):Int)],by kernel_rfl,(by refine mcons ?_ (mcons ?_ (mcons ?_ (mcons ?_ (mcons ?_ (mcons ?_ (mcons ?_ (mcons ?_ (mcons ?_ (mcons ?_ (mcons ?_ (mcons ?_ (mcons ?_ (mcons ?_ (mcons ?_ (mcons ?_ (mcons ?_ (mcons ?_ (mcons ?_ (mcons ?_ mnil)))))))))))))))))))<;>first|rfl|exact h0|exact h1|exact h2|exact h3|exact h4|exact h5|exact h6|trivial|(exact fun _=>h2)|(exact congrArg (fun x=>(Th.ext (Dk.flat (FL.rw 57 [false,false] x)):Td)) h5)|(exact congrArg (Value.int .i64) h1)|(show X.length+1≤100000;omega))⟩
theorem alq_n2 (Y:List Rw) (kd c m a b:Int) (X Xn:List Rw) (k:Nat) (f:Nat→Value) (h0:decide ((k:Int)<(Y.length:Int))=true) (h1:IntKind.i64.wrap ((k:Int)+1)=((k+1:Nat):Int)) (h2:0≤(k:Int)∧(k:Int).toNat<Y.length) (h3:(decide ((k:Int)≥(Y.length:Int))||!((Y.getD k Rw.zero).is.getD 0 0==(Y.getD k Rw.zero).is.getD 0 0&&((Y.getD k Rw.zero).is.getD 1 0==(Y.getD k Rw.zero).is.getD 1 0&&true))||(Y.getD k Rw.zero).is.getD 2 0 != (Y.getD k Rw.zero).is.getD 2 0)=false) (h4:((Y.getD k Rw.zero).is.getD 2 0==c)=false) (h5:X=Xn):∃ qs,alN Id' 6 [(9,.c (.one (.obj 6))),(10,.c (.one (.v (.int .i64 ((k+1:Nat):Int)))))] [⟨.bx [.obj 2],true⟩,⟨.bx [.obj 3],true⟩,⟨.us (.ext (.flat (.rw 72 [false,false,false] Y))),true⟩,⟨.us (.ext (.flat (.rw 176 [false,false,false] Y))),true⟩,⟨.blk [.v (.int .i64 kd),.v (.int .i64 c),.v (.int .i64 m),.v (.int .i64 a),.v (.int .i64 b)],true⟩,⟨.us (.ext (.flat (.rw 72 [false,false,false] Y))),true⟩,⟨.us (.ext (.flat (.rw 57 [false,false] Xn))),true⟩] ((symC (⟨Try.prog,[],[E_of Try.prog 57,E_of Try.prog 72],dkHo,Id'.one,60⟩:Sy Td) [] 112 (hdC (loopsC (bodyOf Try.f56)) 0) ⟨[(9,.c (.one (.obj 6))),(10,.c (.one (.v (.int .i64 (k:Int)))))]++anyB' (writesC (hdC (loopsC (bodyOf Try.f56)) 0)) ([(0,.c (.one (.ptr 0 0))),(1,.c (.one (.ptr 1 0))),(5,.c (.one (.ptr 4 0))),(7,.c (.one (.obj 5)))]++tabV f 112),[⟨.bx [.obj 2],true⟩,⟨.bx [.obj 3],true⟩,⟨.us (.ext (.flat (.rw 72 [false,false,false] Y))),true⟩,⟨.us (.ext (.flat (.rw 176 [false,false,false] Y))),true⟩,⟨.blk [.v (.int .i64 kd),.v (.int .i64 c),.v (.int .i64 m),.v (.int .i64 a),.v (.int .i64 b)],true⟩,⟨.us (.ext (.flat (.rw 72 [false,false,false] Y))),true⟩,⟨.us (.ext (.flat (.rw 57 [false,false] X))),true⟩],0⟩).al [true,false,false])=some qs∧∀ q∈qs,q:=
 ⟨[decide ((↑k:Int)<(↑(FL.rw 176 [false,false,false] Y).n:Int))=true,(!(decide ((↑k:Int)≥(↑(FL.rw 72 [false,false,false] Y).n:Int))||!((Y.getD (↑k:Int).toNat Rw.zero).is.getD (0:Nat) (0:Int)==(Y.getD (↑k:Int).toNat Rw.zero).is.getD (0:Nat) (0:Int)&&((Y.getD (↑k:Int).toNat Rw.zero).is.getD ((0:Nat)+(1:Nat)) (0:Int)==(Y.getD (↑k:Int).toNat Rw.zero).is.getD ((0:Nat)+(1:Nat)) (0:Int)&&true)))&&true)=true→(0:Int)≤(↑k:Int)∧(↑k:Int).toNat<(FL.rw 176 [false,false,false] Y).n,(!(decide ((↑k:Int)≥(↑(FL.rw 72 [false,false,false] Y).n:Int))||!((Y.getD (↑k:Int).toNat Rw.zero).is.getD (0:Nat) (0:Int)==(Y.getD (↑k:Int).toNat Rw.zero).is.getD (0:Nat) (0:Int)&&((Y.getD (↑k:Int).toNat Rw.zero).is.getD ((0:Nat)+(1:Nat)) (0:Int)==(Y.getD (↑k:Int).toNat Rw.zero).is.getD ((0:Nat)+(1:Nat)) (0:Int)&&true)))&&true)=true→(0:Int)≤(↑k:Int)∧(↑k:Int).toNat<(FL.rw 72 [false,false,false] Y).n,(!decide ((↑k:Int)≥(↑(FL.rw 72 [false,false,false] Y).n:Int))&&true)=true→(0:Int)≤(↑k:Int)∧(↑k:Int).toNat<(FL.rw 176 [false,false,false] Y).n,(!decide ((↑k:Int)≥(↑(FL.rw 72 [false,false,false] Y).n:Int))&&true)=true→(0:Int)≤(↑k:Int)∧(↑k:Int).toNat<(FL.rw 72 [false,false,false] Y).n,(decide ((↑k:Int)≥(↑(FL.rw 72 [false,false,false] Y).n:Int))||!((Y.getD (↑k:Int).toNat Rw.zero).is.getD (0:Nat) (0:Int)==(Y.getD (↑k:Int).toNat Rw.zero).is.getD (0:Nat) (0:Int)&&((Y.getD (↑k:Int).toNat Rw.zero).is.getD ((0:Nat)+(1:Nat)) (0:Int)==(Y.getD (↑k:Int).toNat Rw.zero).is.getD ((0:Nat)+(1:Nat)) (0:Int)&&true))||(Y.getD (↑k:Int).toNat Rw.zero).is.getD ((0:Nat)+(1:Nat)+(1:Nat)) (0:Int) != (Y.getD (↑k:Int).toNat Rw.zero).is.getD ((0:Nat)+(1:Nat)+(1:Nat)) (0:Int))=false,(0:Int)≤(↑k:Int)∧(↑k:Int).toNat<(FL.rw 176 [false,false,false] Y).n,((Y.getD (↑k:Int).toNat Rw.zero).is.getD ((0:Nat)+(1:Nat)+(1:Nat)) (0:Int)==c)=false,(Th.ext (Dk.flat (FL.rw 72 [false,false,false] Y)):Td)=Th.ext (Dk.flat (FL.rw 72 [false,false,false] Y)),(Th.ext (Dk.flat (FL.rw 176 [false,false,false] Y)):Td)=Th.ext (Dk.flat (FL.rw 176 [false,false,false] Y)),Value.int IntKind.i64 kd=Value.int IntKind.i64 kd,Value.int IntKind.i64 c=Value.int IntKind.i64 c,Value.int IntKind.i64 m=Value.int IntKind.i64 m,Value.int IntKind.i64 a=Value.int IntKind.i64 a,Value.int IntKind.i64 b=Value.int IntKind.i64 b,(Th.ext (Dk.flat (FL.rw 72 [false,false,false] Y)):Td)=Th.ext (Dk.flat (FL.rw 72 [false,false,false] Y)),(Th.ext (Dk.flat (FL.rw 57 [false,false] X)):Td)=Th.ext (Dk.flat (FL.rw 57 [false,false] Xn)),Value.int IntKind.i64 (IntKind.i64.wrap ((↑k:Int)+(1:Int)))=Value.int IntKind.i64 (↑(k+(1:Nat)):Int)],by kernel_rfl,(by refine mcons ?_ (mcons ?_ (mcons ?_ (mcons ?_ (mcons ?_ (mcons ?_ (mcons ?_ (mcons ?_ (mcons ?_ (mcons ?_ (mcons ?_ (mcons ?_ (mcons ?_ (mcons ?_ (mcons ?_ (mcons ?_ (mcons ?_ (mcons ?_ mnil)))))))))))))))))<;>first|rfl|exact h0|exact h1|exact h2|exact h3|exact h4|exact h5|trivial|(exact fun _=>h2)|(exact congrArg (fun x=>(Th.ext (Dk.flat (FL.rw 57 [false,false] x)):Td)) h5)|(exact congrArg (Value.int .i64) h1)|(show X.length+1≤100000;omega))⟩
theorem alq_x (Y:List Rw) (kd c m a b:Int) (X Xn:List Rw) (k:Nat) (f:Nat→Value) (h0:decide ((k:Int)<(Y.length:Int))=false) (h1:X=Xn):∃ qs,alX Id' 6 0 [(9,.c (.one (.obj 6)))] [⟨.bx [.obj 2],true⟩,⟨.bx [.obj 3],true⟩,⟨.us (.ext (.flat (.rw 72 [false,false,false] Y))),true⟩,⟨.us (.ext (.flat (.rw 176 [false,false,false] Y))),true⟩,⟨.blk [.v (.int .i64 kd),.v (.int .i64 c),.v (.int .i64 m),.v (.int .i64 a),.v (.int .i64 b)],true⟩,⟨.us (.ext (.flat (.rw 72 [false,false,false] Y))),true⟩,⟨.us (.ext (.flat (.rw 57 [false,false] Xn))),true⟩] ((symC (⟨Try.prog,[],[E_of Try.prog 57,E_of Try.prog 72],dkHo,Id'.one,60⟩:Sy Td) [] 112 (hdC (loopsC (bodyOf Try.f56)) 0) ⟨[(9,.c (.one (.obj 6))),(10,.c (.one (.v (.int .i64 (k:Int)))))]++anyB' (writesC (hdC (loopsC (bodyOf Try.f56)) 0)) ([(0,.c (.one (.ptr 0 0))),(1,.c (.one (.ptr 1 0))),(5,.c (.one (.ptr 4 0))),(7,.c (.one (.obj 5)))]++tabV f 112),[⟨.bx [.obj 2],true⟩,⟨.bx [.obj 3],true⟩,⟨.us (.ext (.flat (.rw 72 [false,false,false] Y))),true⟩,⟨.us (.ext (.flat (.rw 176 [false,false,false] Y))),true⟩,⟨.blk [.v (.int .i64 kd),.v (.int .i64 c),.v (.int .i64 m),.v (.int .i64 a),.v (.int .i64 b)],true⟩,⟨.us (.ext (.flat (.rw 72 [false,false,false] Y))),true⟩,⟨.us (.ext (.flat (.rw 57 [false,false] X))),true⟩],0⟩).al [false])=some qs∧∀ q∈qs,q:=
 ⟨[decide ((↑k:Int)<(↑(FL.rw 176 [false,false,false] Y).n:Int))=false,(Th.ext (Dk.flat (FL.rw 72 [false,false,false] Y)):Td)=Th.ext (Dk.flat (FL.rw 72 [false,false,false] Y)),(Th.ext (Dk.flat (FL.rw 176 [false,false,false] Y)):Td)=Th.ext (Dk.flat (FL.rw 176 [false,false,false] Y)),Value.int IntKind.i64 kd=Value.int IntKind.i64 kd,Value.int IntKind.i64 c=Value.int IntKind.i64 c,Value.int IntKind.i64 m=Value.int IntKind.i64 m,Value.int IntKind.i64 a=Value.int IntKind.i64 a,Value.int IntKind.i64 b=Value.int IntKind.i64 b,(Th.ext (Dk.flat (FL.rw 72 [false,false,false] Y)):Td)=Th.ext (Dk.flat (FL.rw 72 [false,false,false] Y)),(Th.ext (Dk.flat (FL.rw 57 [false,false] X)):Td)=Th.ext (Dk.flat (FL.rw 57 [false,false] Xn))],by kernel_rfl,(by refine mcons ?_ (mcons ?_ (mcons ?_ (mcons ?_ (mcons ?_ (mcons ?_ (mcons ?_ (mcons ?_ (mcons ?_ (mcons ?_ mnil)))))))))<;>first|rfl|exact h0|exact h1|trivial|(exact congrArg (fun x=>(Th.ext (Dk.flat (FL.rw 57 [false,false] x)):Td)) h1))⟩
theorem alq_lp (Y:List Rw) (kd c m a b:Int) (hY:Y.length≤10000) {W0:World} {G:Nat→Prop} (S0:Sy Td) (hS0:S0.P=Try.prog):LoopSound S0 Id' W0 G 112 (hdC (loopsC (bodyOf Try.f56)) 0) (lpG Id' 112 (hdC (loopsC (bodyOf Try.f56)) 0) 6 [(9,.c (.one (.obj 6))),(10,.c (.one (.v (.int .i64 ((0:Nat):Int)))))] [(0,.c (.one (.ptr 0 0))),(1,.c (.one (.ptr 1 0))),(5,.c (.one (.ptr 4 0))),(7,.c (.one (.obj 5)))] [⟨.bx [.obj 2],true⟩,⟨.bx [.obj 3],true⟩,⟨.us (.ext (.flat (.rw 72 [false,false,false] Y))),true⟩,⟨.us (.ext (.flat (.rw 176 [false,false,false] Y))),true⟩,⟨.blk [.v (.int .i64 kd),.v (.int .i64 c),.v (.int .i64 m),.v (.int .i64 a),.v (.int .i64 b)],true⟩,⟨.us (.ext (.flat (.rw 72 [false,false,false] Y))),true⟩,⟨.us (.ext (.flat (.rw 57 [false,false] (ofS Y c 0)))),true⟩] (.leaf (.exit 0) [(9,.c (.one (.obj 6)))] [⟨.bx [.obj 2],true⟩,⟨.bx [.obj 3],true⟩,⟨.us (.ext (.flat (.rw 72 [false,false,false] Y))),true⟩,⟨.us (.ext (.flat (.rw 176 [false,false,false] Y))),true⟩,⟨.blk [.v (.int .i64 kd),.v (.int .i64 c),.v (.int .i64 m),.v (.int .i64 a),.v (.int .i64 b)],true⟩,⟨.us (.ext (.flat (.rw 72 [false,false,false] Y))),true⟩,⟨.us (.ext (.flat (.rw 57 [false,false] (ofS Y c Y.length)))),true⟩])):=by
 refine lp_sound (V:=fun k=>[(9,.c (.one (.obj 6))),(10,.c (.one (.v (.int .i64 (k:Int)))))]) (M:=(fun k=>[⟨.bx [.obj 2],true⟩,⟨.bx [.obj 3],true⟩,⟨.us (.ext (.flat (.rw 72 [false,false,false] Y))),true⟩,⟨.us (.ext (.flat (.rw 176 [false,false,false] Y))),true⟩,⟨.blk [.v (.int .i64 kd),.v (.int .i64 c),.v (.int .i64 m),.v (.int .i64 a),.v (.int .i64 b)],true⟩,⟨.us (.ext (.flat (.rw 72 [false,false,false] Y))),true⟩,⟨.us (.ext (.flat (.rw 57 [false,false] (ofS Y c k)))),true⟩]:Nat→Mem Td)) (N:=Y.length) (Ux:=fun k x=>match x with|.exit 0=>some ([(9,.c (.one (.obj 6)))],([⟨.bx [.obj 2],true⟩,⟨.bx [.obj 3],true⟩,⟨.us (.ext (.flat (.rw 72 [false,false,false] Y))),true⟩,⟨.us (.ext (.flat (.rw 176 [false,false,false] Y))),true⟩,⟨.blk [.v (.int .i64 kd),.v (.int .i64 c),.v (.int .i64 m),.v (.int .i64 a),.v (.int .i64 b)],true⟩,⟨.us (.ext (.flat (.rw 72 [false,false,false] Y))),true⟩,⟨.us (.ext (.flat (.rw 57 [false,false] (ofS Y c Y.length)))),true⟩]:Mem Td))|_=>none) (X:=fun _ _=>True) (J:=fun k=>k≤Y.length) (fun k=>by kernel_rfl) (Nat.zero_le _) (fun k hk hJ f=>?_) (fun K hK k x U hk hU hX=>?_)
 ·rw [hS0]
  have hXl:=ofS_len Y c k
  cases hT:decide ((k:Int)<(Y.length:Int)) with
  |false=>
   have hk1:k=Y.length:=by have:=of_decide_eq_false hT;omega
   exact rnd_xD (⟨Try.prog,[],[E_of Try.prog 57,E_of Try.prog 72],dkHo,Id'.one,60⟩:Sy Td) rfl ((fun (W0:World) (G:Nat→Prop)=>SyOk.mk2 Try.mixed dkHo_ok (FnsR.nil) (E_of_ok (by kernel_rfl) (E_of_ok (by kernel_rfl) (EqsOk.nil)))) W0 G) (alq_x Y kd c m a b _ _ k f hT (by rw [hk1])) rfl trivial
  |true=>
   have hk1:k<Y.length:=by have:=of_decide_eq_true hT;omega
   have hW:IntKind.i64.wrap ((k:Int)+1)=((k+1:Nat):Int):=by rw [IntWalk.i64_in _ (by omega)];omega
   have hS:(decide ((k:Int)≥(Y.length:Int))||!((Y.getD k Rw.zero).is.getD 0 0==(Y.getD k Rw.zero).is.getD 0 0&&((Y.getD k Rw.zero).is.getD 1 0==(Y.getD k Rw.zero).is.getD 1 0&&true))||(Y.getD k Rw.zero).is.getD 2 0 != (Y.getD k Rw.zero).is.getD 2 0)=false:=by
    rw [decide_eq_false (by omega)]
    simp
   cases hE:(Y.getD k Rw.zero).is.getD 2 0==c with
   |true=>exact rnd_nD (⟨Try.prog,[],[E_of Try.prog 57,E_of Try.prog 72],dkHo,Id'.one,60⟩:Sy Td) rfl ((fun (W0:World) (G:Nat→Prop)=>SyOk.mk2 Try.mixed dkHo_ok (FnsR.nil) (E_of_ok (by kernel_rfl) (E_of_ok (by kernel_rfl) (EqsOk.nil)))) W0 G) (alq_n1 Y kd c m a b _ _ k f hT hW ⟨by omega,by omega⟩ hS hE (ofS_yes hE).symm (by omega)) rfl rfl (by omega) (by omega)
   |false=>exact rnd_nD (⟨Try.prog,[],[E_of Try.prog 57,E_of Try.prog 72],dkHo,Id'.one,60⟩:Sy Td) rfl ((fun (W0:World) (G:Nat→Prop)=>SyOk.mk2 Try.mixed dkHo_ok (FnsR.nil) (E_of_ok (by kernel_rfl) (E_of_ok (by kernel_rfl) (EqsOk.nil)))) W0 G) (alq_n2 Y kd c m a b _ _ k f hT hW ⟨by omega,by omega⟩ hS hE (ofS_no hE).symm) rfl rfl (by omega) (by omega)
 ·revert hU
  match x with
  |.exit 0=>intro hU;simp only [Option.some.injEq] at hU;subst hU;exact hK
  |.normal=>intro hU;cases hU
  |.ret=>intro hU;cases hU
  |.exit (n+1)=>intro hU;cases hU
theorem alqA_w0 (Y:List Rw) (kd c m a b:Int) (h0:Y.length≤10000) (h1:Y.length≤100000) (h2:((Y.length:Int)==(Y.length:Int)&&true&&hsE Y a b c==hsE Y a b c)=true):∃ qs,wayO Id' ([⟨.bx [.obj 2],true⟩,⟨.bx [.obj 3],true⟩,⟨.us (.ext (.flat (.rw 72 [false,false,false] Y))),true⟩,⟨.us (.ext (.flat (.rw 176 [false,false,false] Y))),true⟩]:Mem Td).length [⟨.bx [.obj 2],true⟩,⟨.bx [.obj 3],true⟩,⟨.us (.ext (.flat (.rw 72 [false,false,false] Y))),true⟩,⟨.us (.ext (.flat (.rw 176 [false,false,false] Y))),true⟩] (svV (.bool true)) ((runFn (⟨Try.prog,[(38,ctrF Id' C_pal hardD),(48,ctrF Id' C_qof hardD),(114,ctrV C_sam hardD),(42,ctrV C_phs hardD),(50,ctrV C_rhs22 hardD)],[E_of Try.prog 57,E_of Try.prog 72],dkHo,Id'.one,60⟩:Sy Td) [(4,(lpG Id' 112 (hdC (loopsC (bodyOf Try.f56)) 0) 6 [(9,.c (.one (.obj 6))),(10,.c (.one (.v (.int .i64 ((0:Nat):Int)))))] [(0,.c (.one (.ptr 0 0))),(1,.c (.one (.ptr 1 0))),(5,.c (.one (.ptr 4 0))),(7,.c (.one (.obj 5)))] [⟨.bx [.obj 2],true⟩,⟨.bx [.obj 3],true⟩,⟨.us (.ext (.flat (.rw 72 [false,false,false] Y))),true⟩,⟨.us (.ext (.flat (.rw 176 [false,false,false] Y))),true⟩,⟨.blk [.v (.int .i64 kd),.v (.int .i64 c),.v (.int .i64 m),.v (.int .i64 a),.v (.int .i64 b)],true⟩,⟨.us (.ext (.flat (.rw 72 [false,false,false] Y))),true⟩,⟨.us (.ext (.flat (.rw 57 [false,false] (ofS Y c 0)))),true⟩] (.leaf (.exit 0) [(9,.c (.one (.obj 6)))] [⟨.bx [.obj 2],true⟩,⟨.bx [.obj 3],true⟩,⟨.us (.ext (.flat (.rw 72 [false,false,false] Y))),true⟩,⟨.us (.ext (.flat (.rw 176 [false,false,false] Y))),true⟩,⟨.blk [.v (.int .i64 kd),.v (.int .i64 c),.v (.int .i64 m),.v (.int .i64 a),.v (.int .i64 b)],true⟩,⟨.us (.ext (.flat (.rw 72 [false,false,false] Y))),true⟩,⟨.us (.ext (.flat (.rw 57 [false,false] (ofS Y c Y.length)))),true⟩])))] Try.f56 [.one (.ptr 0 0),.one (.ptr 1 0),.agg [.v (.int .i64 kd),.v (.int .i64 c),.v (.int .i64 m),.v (.int .i64 a),.v (.int .i64 b)]] [⟨.bx [.obj 2],true⟩,⟨.bx [.obj 3],true⟩,⟨.us (.ext (.flat (.rw 72 [false,false,false] Y))),true⟩,⟨.us (.ext (.flat (.rw 176 [false,false,false] Y))),true⟩]).al [])=some qs∧∀ q∈qs,q:=
 ⟨[Y.length≤(100000:Nat),(Th.ext (Dk.flat (FL.rw 72 [false,false,false] Y)):Td)=Th.ext (Dk.flat (FL.rw 72 [false,false,false] Y)),(Th.ext (Dk.flat (FL.rw 176 [false,false,false] Y)):Td)=Th.ext (Dk.flat (FL.rw 176 [false,false,false] Y)),Value.int IntKind.i64 kd=Value.int IntKind.i64 kd,Value.int IntKind.i64 c=Value.int IntKind.i64 c,Value.int IntKind.i64 m=Value.int IntKind.i64 m,Value.int IntKind.i64 a=Value.int IntKind.i64 a,Value.int IntKind.i64 b=Value.int IntKind.i64 b,(Th.ext (Dk.flat (FL.rw 72 [false,false,false] Y)):Td)=Th.ext (Dk.flat (FL.rw 72 [false,false,false] Y)),∀ (w:World),Id'.holds (Th.ext (Dk.flat (FL.rw 57 [false,false] (ofS Y c (0:Nat))))) w nilV∧∀ (j:Nat),¬Id'.foot (Th.ext (Dk.flat (FL.rw 57 [false,false] (ofS Y c (0:Nat))))) w nilV j,Value.int IntKind.i64 (Int.ofNat 0)=Value.int IntKind.i64 (Int.ofNat (0:Nat)),Y.length≤(10000:Nat),((↑(FL.rw 72 [false,false,false] Y).n:Int)==(↑(FL.rw 176 [false,false,false] Y).n:Int)&&true&&true)=true→Y.length≤(100000:Nat),((↑(FL.rw 72 [false,false,false] Y).n:Int)==(↑(FL.rw 176 [false,false,false] Y).n:Int)&&true&&true)=true→Y.length≤(100000:Nat),((↑(FL.rw (72:TypeId) [false,false,false] Y).n:Int)==(↑(FL.rw (176:TypeId) [false,false,false] Y).n:Int)&&true)=true→(ofS Y c Y.length)=ofS Y c Y.length,((↑(FL.rw 72 [false,false,false] Y).n:Int)==(↑(FL.rw 176 [false,false,false] Y).n:Int)&&true)=true→(ofS Y c Y.length).length≤(10000:Nat),(Th.ext (Dk.flat (FL.rw 72 [false,false,false] Y)):Td)=Th.ext (Dk.flat (FL.rw 72 [false,false,false] Y)),(Th.ext (Dk.flat (FL.rw 176 [false,false,false] Y)):Td)=Th.ext (Dk.flat (FL.rw 176 [false,false,false] Y)),Value.bool ((↑(FL.rw 72 [false,false,false] Y).n:Int)==(↑(FL.rw 176 [false,false,false] Y).n:Int)&&true&&hsE Y a b c==hsE Y a b c)=Value.bool true],by kernel_rfl,(by refine mcons ?_ (mcons ?_ (mcons ?_ (mcons ?_ (mcons ?_ (mcons ?_ (mcons ?_ (mcons ?_ (mcons ?_ (mcons ?_ (mcons ?_ (mcons ?_ (mcons ?_ (mcons ?_ (mcons ?_ (mcons ?_ (mcons ?_ (mcons ?_ (mcons ?_ mnil))))))))))))))))))<;>first|rfl|exact h0|exact h1|exact h2|trivial|(exact nil_rw3 rfl)|(exact fun _=>h1)|(exact fun _=>rfl)|(exact fun _=>Nat.le_trans (ofS_len Y c _) h0)|(exact congrArg Value.bool h2))⟩
def C_alq:Ctr Td:=fun us sub=>match us,sub with
 |[.one (.ptr 0 0),.one (.ptr 1 0),.agg [.v (.int .i64 kd),.v (.int .i64 c),.v (.int .i64 m),.v (.int .i64 a),.v (.int .i64 b)]],[⟨.bx [.obj 2],true⟩,⟨.bx [.obj 3],true⟩,⟨.us (.ext (.flat (.rw 72 [false,false,false] Y))),true⟩,⟨.us (.ext (.flat (.rw 176 [false,false,false] X))),true⟩]=>some ([Y=X,Y.length≤10000],svV (.bool true),[⟨.bx [.obj 2],true⟩,⟨.bx [.obj 3],true⟩,⟨.us (.ext (.flat (.rw 72 [false,false,false] Y))),true⟩,⟨.us (.ext (.flat (.rw 176 [false,false,false] X))),true⟩])
 |_,_=>none
theorem C_alq_ok:CtrOk Try.prog Id' 56 C_alq:=by
 intro us sub ps x sm h hp w e vs hM ha
 unfold C_alq at h
 split at h
 ·rename_i kd c m a b Y X
  simp only [Option.some.injEq,Prod.mk.injEq] at h
  obtain ⟨rfl,rfl,rfl⟩:=h
  have hE:Y=X:=hp _ (List.mem_cons_self ..)
  have hL:Y.length≤10000:=hp _ (List.mem_cons_of_mem _ (List.mem_cons_self ..))
  subst hE
  exact ctr_way (I:=Id') (fun (W0:World) (G:Nat→Prop)=>SyOk.mk2 Try.mixed dkHo_ok (FnsR.cons (R_pal) (FnsR.cons (R_qof) (FnsR.cons (R_sam) (FnsR.cons (R_phs) (FnsR.cons (R_rhs22) (FnsR.nil)))))) (E_of_ok (by kernel_rfl) (E_of_ok (by kernel_rfl) (EqsOk.nil)))) rfl Try.func56 (by kernel_rfl) (fun W0 G=>LpsOk.cons (by kernel_rfl) (alq_lp Y kd c m a b hL _ rfl) (LpsOk.nil _)) (cs:=[]) (by kernel_rfl) (alqA_w0 Y kd c m a b hL (by omega) (by simp)) w e vs hM ha
 ·cases h
theorem R_alq:RowOk Try.prog Id' hardD 56 (ctrF Id' C_alq hardD):=ctrF_ok Try.call56 C_alq_ok
def hitr (a b c:Int) (r:Rw):Bool:=r.is.getD 0 0==a&&(r.is.getD 1 0==b&&true)&&r.is.getD 2 0==c
theorem getD_at {Y:List Rw} {q:Nat} (h:q<Y.length):Y.getD q Rw.zero=Y[q]:=by
 rw [List.getD_eq_getElem?_getD,List.getElem?_eq_getElem h];rfl
theorem getD_atI {L:List Int} {q:Nat} (h:q<L.length):L.getD q 0=L[q]:=by
 rw [List.getD_eq_getElem?_getD,List.getElem?_eq_getElem h];rfl
theorem hs_any (Y:List Rw) (a b c:Int):hsE Y a b c=Y.any (hitr a b c):=by
 unfold hsE
 rcases fst_cases Y.length (atP Y a b c) with ⟨hv,hall⟩|⟨h1,h2,h3,h4⟩
 ·rw [hv]
  symm
  show Y.any (hitr a b c)=false
  rw [List.any_eq_false]
  intro x hx
  obtain ⟨q,hq,rfl⟩:=List.mem_iff_getElem.1 hx
  have h:=hit_no (hall (q:Int) (by omega) (by simpa using hq))
  unfold hitR at h
  rw [Int.toNat_natCast,getD_at hq] at h
  unfold hitr
  rw [h];decide
 ·rw [beq_eq_false_iff_ne.2 (by omega)]
  symm
  show Y.any (hitr a b c)=true
  rw [List.any_eq_true]
  refine ⟨Y[(fstI Y.length (atP Y a b c)).toNat],List.getElem_mem ..,?_⟩
  have h:=hit_yes h3
  unfold hitR at h
  rw [getD_at h2] at h
  exact h
theorem hitr_eq {a b c:Int} {r:Rw} (h:hitr a b c r=true):r.is.getD 0 0=a∧r.is.getD 1 0=b∧r.is.getD 2 0=c:=by
 unfold hitr at h
 rw [Bool.and_eq_true,Bool.and_eq_true,Bool.and_true,beq_iff_eq,beq_iff_eq,beq_iff_eq] at h
 exact ⟨h.1.1,h.1.2,h.2⟩
theorem hitr_of {a b c:Int} {r:Rw} (h0:r.is.getD 0 0=a) (h1:r.is.getD 1 0=b) (h2:r.is.getD 2 0=c):hitr a b c r=true:=by
 unfold hitr;rw [h0,h1,h2];simp
theorem hitr_new (a b c c':Int):hitr a b c' ⟨[a,b,c],[]⟩=(c==c'):=by
 show (a==a&&(b==b&&true)&&c==c')=_
 rw [beq_self_eq_true,beq_self_eq_true];rfl
theorem wt_any (X:List Rw) (a b c:Int) (hc:0≤c∧c<8) (c':Int):(wtT X a b c).any (hitr a b c')=(X.any (hitr a b c')||c==c'):=by
 unfold wtT
 rw [show (decide (c<0)||decide (c>7))=false by rw [Bool.or_eq_false_iff,decide_eq_false_iff_not,decide_eq_false_iff_not];omega]
 rw [cond_false]
 cases h:hsE X a b c with
 |true=>
  rw [cond_true]
  cases hcc:(c==c') with
  |false=>rw [Bool.or_false]
  |true=>
   rw [beq_iff_eq] at hcc
   subst hcc
   rw [← hs_any,h];rfl
 |false=>
  rw [cond_false,List.any_append]
  congr 1
  rw [List.any_cons,List.any_nil,Bool.or_false,hitr_new]
theorem wt_zero (X:List Rw) (a b c:Int) (hc:0≤c∧c<8):(wtE X a b c==0)=!hsE X a b c:=by
 unfold wtE
 rw [show (decide (c<0)||decide (c>7))=false by rw [Bool.or_eq_false_iff,decide_eq_false_iff_not,decide_eq_false_iff_not];omega,cond_false]
 cases hsE X a b c<;>rfl
theorem ne_inv (Y:List Rw) (a b:Int) (L:List Int) (hL:∀ c∈L,0≤c∧c<8) (hn:L.Nodup):∀ k,k≤L.length→
  (∀ c',(neS Y a b L k).1.any (hitr a b c')=(Y.any (hitr a b c')||(L.take k).contains c'))∧(neS Y a b L k).2=(((L.take k).filter fun c=>!hsE Y a b c).length:Int)
 |0,_=>⟨fun c'=>by rw [List.take_zero];show Y.any _=_;simp,rfl⟩
 |k+1,hk=>by
  obtain ⟨h1,h2⟩:=ne_inv Y a b L hL hn k (by omega)
  have hj:k<L.length:=by omega
  have hx:L.getD k 0=L[k]:=getD_atI hj
  have hc:=hL L[k] (List.getElem_mem hj)
  have htk:L.take (k+1)=L.take k++[L[k]]:=by rw [List.take_add_one,List.getElem?_eq_getElem hj];rfl
  refine ⟨fun c'=>?_,?_⟩
  ·show (wtT (neS Y a b L k).1 a b (L.getD k 0)).any _=_
   rw [hx,wt_any _ _ _ _ hc,h1,htk,Bool.or_assoc]
   congr 1
   rw [List.contains_eq_any_beq,List.contains_eq_any_beq,List.any_append,List.any_cons,List.any_nil,Bool.or_false,BEq.comm]
  ·show (bif wtE (neS Y a b L k).1 a b (L.getD k 0)==0 then (neS Y a b L k).2+1 else (neS Y a b L k).2)=_
   have hnot:(L.take k).contains L[k]=false:=by
    rw [List.contains_eq_any_beq,List.any_eq_false]
    intro x hx' he
    obtain ⟨q,hq,rfl⟩:=List.mem_iff_getElem.1 hx'
    rw [List.length_take] at hq
    rw [List.getElem_take,beq_iff_eq] at he
    exact List.pairwise_iff_getElem.1 hn q k (by omega) hj (by omega) he.symm
   rw [hx,wt_zero _ _ _ _ hc,hs_any,h1,hnot,Bool.or_false,←hs_any,htk,List.filter_append,List.length_append,h2]
   cases hz:hsE Y a b L[k] with
   |true=>rw [Bool.not_true,cond_false];simp [List.filter_cons,hz]
   |false=>rw [Bool.not_false,cond_true];simp [List.filter_cons,hz]
def rng (k:Nat):List Int:=(List.range k).map fun i:Nat=>(i:Int)
theorem rng_succ (k:Nat):rng (k+1)=rng k++[(k:Int)]:=by unfold rng;rw [List.range_succ,List.map_append];rfl
theorem hol_rng (T:List ((Int×Int)×Int)) (a b:Int):∀ k,holS T a b k=(rng k).filter fun c=>mdE T a b c != 0
 |0=>rfl
 |k+1=>by
  rw [rng_succ,List.filter_append,←hol_rng T a b k]
  cases h:(mdE T a b (k:Int) != 0) with
  |true=>rw [holS_yes T a b h];congr 1;simp only [List.filter_cons,h];rfl
  |false=>rw [holS_no T a b h];simp only [List.filter_cons,h];simp
theorem oth_take (T:List ((Int×Int)×Int)) (a b cl md:Int) (L:List Int):∀ k,k≤L.length→othS T a b cl md L k=(L.take k).filter fun c=>c != cl&&(md==2||mdE T a b c==2)
 |0,_=>by rw [List.take_zero];rfl
 |k+1,hk=>by
  have hj:k<L.length:=by omega
  have htk:L.take (k+1)=L.take k++[L[k]]:=by rw [List.take_add_one,List.getElem?_eq_getElem hj];rfl
  rw [htk,List.filter_append,←oth_take T a b cl md L k (by omega)]
  have hx:L.getD k 0=L[k]:=getD_atI hj
  cases h:(L.getD k 0 != cl&&(md==2||mdE T a b (L.getD k 0)==2)) with
  |true=>rw [othS_yes T a b cl md L h,hx];rw [hx] at h;congr 1;simp only [List.filter_cons,h];rfl
  |false=>rw [othS_no T a b cl md L h];rw [hx] at h;simp only [List.filter_cons,h];simp
def inWay (T:List ((Int×Int)×Int)) (a b cl md c:Int):Bool:=(mdE T a b c != 0)&&(c != cl&&(md==2||mdE T a b c==2))
theorem oth_rng (T:List ((Int×Int)×Int)) (a b cl md:Int):othE T a b cl md=(rng 8).filter (inWay T a b cl md):=by
 unfold othE
 rw [oth_take _ _ _ _ _ _ _ (Nat.le_refl _),List.take_of_length_le (Nat.le_refl _),hol_rng,List.filter_filter]
 congr 1
 funext c
 unfold inWay
 exact Bool.and_comm _ _
def Nr3 (Q:List Rw):Prop:=Q.map nr3=Q
theorem nrm_wt {Q:List Rw} (h:Nr3 Q) (a b c:Int):Nr3 (wtT Q a b c):=by
 unfold wtT
 cases (decide (c<0)||decide (c>7)) with
 |true=>exact h
 |false=>
  cases hsE Q a b c with
  |true=>exact h
  |false=>
   show (Q++_).map nr3=Q++_
   rw [List.map_append,h];rfl
theorem nrm_filter {Q:List Rw} (h:Nr3 Q) (p:Rw→Bool):Nr3 (Q.filter p):=by
 show List.map nr3 (List.filter p Q)=List.filter p Q
 refine (List.map_congr_left (g:=id) fun x hx=>?_).trans (List.map_id _)
 obtain ⟨q,hq,rfl⟩:=List.mem_iff_getElem.1 ((List.mem_filter.1 hx).1)
 have:=congrArg (fun l=>l[q]?) h
 simp only [List.getElem?_map,List.getElem?_eq_getElem hq,Option.map_some,Option.some.injEq] at this
 exact this
theorem nrm_ne {Q:List Rw} (h:Nr3 Q) (a b:Int) (L:List Int):∀ k,Nr3 (neS Q a b L k).1
 |0=>h
 |k+1=>nrm_wt (nrm_ne h a b L k) a b _
theorem nrm_pn {Q:List Rw} (h:Nr3 Q) (Z:List ((Int×Int)×Int)) (a b cl md:Int):Nr3 (pnE Q Z a b cl md).1:=nrm_ne h a b _ _
theorem pn_len (Q:List Rw) (Z:List ((Int×Int)×Int)) (a b cl md:Int):(pnE Q Z a b cl md).1.length≤Q.length+8:=by
 have h:=(neS_len Q a b (othE Z a b cl md) (othE Z a b cl md).length).1
 have:=othS_len2 Z a b cl md
 show (neS Q a b (othE Z a b cl md) (othE Z a b cl md).length).1.length≤_
 omega
theorem u16_wrap (x:Int):IntKind.u16.wrap x=x % 65536:=rfl
theorem ofInt_nat (N:BitVec 16):BitVec.ofInt 16 (IntKind.u16.wrap (N.toNat:Int))=N:=by
 apply BitVec.eq_of_toNat_eq
 rw [BitVec.toNat_ofInt,u16_wrap]
 have:=N.isLt
 omega
def mK (c:Int):BitVec 16:=BitVec.ofInt 16 (IntKind.u16.wrap ((3:Int) * (2:Int) ^ min (IntKind.i64.wrap ((2:Int) * c)).toNat IntKind.u16.bits))
def mV (c x:Int):BitVec 16:=BitVec.ofInt 16 (IntKind.u16.wrap (IntKind.u16.wrap x * (2:Int) ^ min (IntKind.i64.wrap ((2:Int) * c)).toNat IntKind.u16.bits))
def dig (w:BitVec 16) (c:Nat):Int:=(((w.getLsbD (2 * c)).toNat+2 * (w.getLsbD (2 * c+1)).toNat:Nat):Int)
theorem two_bits (q:Nat):q % 4=(decide (q % 2=1)).toNat+2 * (decide (q / 2 % 2=1)).toNat:=by
 by_cases h0:q % 2=1<;>by_cases h1:q / 2 % 2=1<;>simp [h0,h1]<;>omega
theorem exp_c {c:Nat} (hc:c<8):min (IntKind.i64.wrap ((2:Int) * (c:Int))).toNat IntKind.u16.bits=2 * c:=by
 rw [IntWalk.i64_in _ (by omega)]
 show min _ 16=_
 omega
theorem of_dig (N:BitVec 16) {c:Nat} (hc:c<8):ofE (N.toNat:Int) c=dig N c:=by
 have hN:=N.isLt
 unfold ofE
 rw [exp_c hc]
 have h1:((N.toNat:Int).fdiv ((2:Int) ^ (2 * c)))=((N.toNat / 2 ^ (2 * c):Nat):Int):=by
  rw [Int.fdiv_eq_ediv_of_nonneg _ (Int.pow_nonneg (by decide))]
  simp
 rw [h1]
 have hq:N.toNat / 2 ^ (2 * c)<65536:=Nat.lt_of_le_of_lt (Nat.div_le_self _ _) hN
 have h2:(BitVec.ofInt IntKind.u16.bits ((N.toNat / 2 ^ (2 * c):Nat):Int) &&& BitVec.ofInt IntKind.u16.bits (3:Int)).toNat=(N.toNat / 2 ^ (2 * c)) % 4:=by
  show (BitVec.ofInt 16 _ &&& BitVec.ofInt 16 3).toNat=_
  rw [BitVec.toNat_and,BitVec.toNat_ofInt,BitVec.toNat_ofInt]
  have e3:((3:Int) % ((2 ^ 16:Nat):Int)).toNat=2 ^ 2 - 1:=by decide
  have eq:(((N.toNat / 2 ^ (2 * c):Nat):Int) % ((2 ^ 16:Nat):Int)).toNat=N.toNat / 2 ^ (2 * c):=by
   generalize N.toNat / 2 ^ (2 * c)=q at hq
   omega
  rw [e3,eq,Nat.and_two_pow_sub_one_eq_mod]
 rw [h2,u16_wrap]
 rw [show (((N.toNat / 2 ^ (2 * c)) % 4:Nat):Int) % 65536=(((N.toNat / 2 ^ (2 * c)) % 4:Nat):Int) by omega,IntWalk.i64_in _ (by omega)]
 unfold dig
 congr 1
 rw [← BitVec.testBit_toNat,←BitVec.testBit_toNat,Nat.testBit_eq_decide_div_mod_eq,Nat.testBit_eq_decide_div_mod_eq,Nat.pow_succ,←Nat.div_div_eq_div_mul]
 exact two_bits _
theorem wi_eq (M:BitVec 16) (c x:Int):wiE (M.toNat:Int) c x=((((M &&& ~~~ mK c) ||| mV c x).toNat:Nat):Int):=by
 have hM:BitVec.ofInt 16 (M.toNat:Int)=M:=by
  have h:=ofInt_nat M
  rw [u16_wrap,show (M.toNat:Int) % 65536=M.toNat by have:=M.isLt;omega] at h
  exact h
 have h:wiE (M.toNat:Int) c x=IntKind.u16.wrap (((BitVec.ofInt 16 (IntKind.u16.wrap (((BitVec.ofInt 16 (M.toNat:Int) &&& ~~~ mK c).toNat:Nat):Int)) ||| mV c x).toNat:Nat):Int):=rfl
 rw [h,ofInt_nat,hM,u16_wrap]
 have:=((M &&& ~~~ mK c) ||| mV c x).isLt
 omega
theorem tabKV:∀ c:Fin 8,∀ d:Fin 8,∀ x:Fin 4,(mK ((c.val:Nat):Int)).getLsbD (2 * d.val)=(c==d)∧(mK ((c.val:Nat):Int)).getLsbD (2 * d.val+1)=(c==d)∧
  (mV ((c.val:Nat):Int) ((x.val:Nat):Int)).getLsbD (2 * d.val)=((c==d)&&x.val.testBit 0)∧(mV ((c.val:Nat):Int) ((x.val:Nat):Int)).getLsbD (2 * d.val+1)=((c==d)&&x.val.testBit 1):=by decide +kernel
theorem bitsX:∀ x:Fin 4,(x.val.testBit 0).toNat+2 * (x.val.testBit 1).toNat=x.val:=by decide
theorem dig_wi (M:BitVec 16) (c d:Fin 8) (x:Fin 4):dig ((M &&& ~~~ mK ((c.val:Nat):Int)) ||| mV ((c.val:Nat):Int) ((x.val:Nat):Int)) d.val=bif c==d then ((x.val:Nat):Int) else dig M d.val:=by
 obtain ⟨h1,h2,h3,h4⟩:=tabKV c d x
 have hd:=d.isLt
 have g0:decide (2 * d.val<16)=true:=decide_eq_true (by omega)
 have g1:decide (2 * d.val+1<16)=true:=decide_eq_true (by omega)
 unfold dig
 rw [BitVec.getLsbD_or,BitVec.getLsbD_or,BitVec.getLsbD_and,BitVec.getLsbD_and,BitVec.getLsbD_not,BitVec.getLsbD_not,h1,h2,h3,h4,g0,g1]
 cases (c==d) with
 |true=>simp only [Bool.not_true,Bool.and_false,Bool.false_or,Bool.true_and,cond_true];rw [bitsX]
 |false=>simp only [Bool.not_false,Bool.and_true,Bool.or_false,Bool.false_and,cond_false]
theorem of_wi {m:Int} (hm:0≤m∧m<65536) {c d x:Int} (hc:0≤c∧c<8) (hd:0≤d∧d<8) (hx:0≤x∧x<4):ofE (wiE m c x) d=bif c==d then x else ofE m d:=by
 obtain ⟨c,rfl⟩:∃ n:Nat,c=n:=⟨c.toNat,by omega⟩
 obtain ⟨d,rfl⟩:∃ n:Nat,d=n:=⟨d.toNat,by omega⟩
 obtain ⟨x,rfl⟩:∃ n:Nat,x=n:=⟨x.toNat,by omega⟩
 obtain ⟨M,rfl⟩:∃ M:BitVec 16,m=(M.toNat:Int):=⟨BitVec.ofNat 16 m.toNat,by rw [BitVec.toNat_ofNat];omega⟩
 rw [wi_eq,of_dig _ (by omega),of_dig _ (by omega)]
 have h:=dig_wi M ⟨c,by omega⟩ ⟨d,by omega⟩ ⟨x,by omega⟩
 rw [h]
 congr 1
 rw [Bool.eq_iff_iff,beq_iff_eq,beq_iff_eq,Fin.mk.injEq]
 omega
theorem wi_in {m:Int} (hm:0≤m∧m<65536) (c x:Int):0≤wiE m c x∧wiE m c x<65536:=by
 obtain ⟨M,rfl⟩:∃ M:BitVec 16,m=(M.toNat:Int):=⟨BitVec.ofNat 16 m.toNat,by rw [BitVec.toNat_ofNat];omega⟩
 rw [wi_eq]
 have:=((M &&& ~~~ mK c) ||| mV c x).isLt
 omega
theorem of_zero {d:Int} (hd:0≤d∧d<8):ofE 0 d=0:=by
 obtain ⟨d,rfl⟩:∃ n:Nat,d=n:=⟨d.toNat,by omega⟩
 have h:=of_dig 0#16 (c:=d) (by omega)
 have h0:((0#16).toNat:Int)=0:=rfl
 rw [h0] at h
 rw [h];unfold dig;simp
abbrev MapT:=List ((Int×Int)×Int)
def keyP (a b:Int) (p:(Int×Int)×Int):Bool:=a==p.1.1&&b==p.1.2
theorem mpGo_shift (a b:Int):∀ (T:MapT) (i:Nat),mpGo a b (i+1) T=(mpGo a b i T).map fun q=>(q.1+1,q.2)
 |[],i=>rfl
 |p::r,i=>by
  unfold mpGo
  cases (a==p.1.1&&b==p.1.2) with
  |true=>rfl
  |false=>exact mpGo_shift a b r (i+1)
theorem get_cons (a b:Int) (p:(Int×Int)×Int) (r:MapT):mpGet (p::r) a b=bif keyP a b p then p.2 else mpGet r a b:=by
 unfold mpGet
 rw [mpGo]
 unfold keyP
 cases (a==p.1.1&&b==p.1.2) with
 |true=>rfl
 |false=>
  simp only [cond_false]
  rw [mpGo_shift]
  cases mpGo a b 0 r<;>rfl
theorem put_cons (a b m:Int) (p:(Int×Int)×Int) (r:MapT):mpPut (p::r) a b m=bif keyP a b p then ((a,b),m)::r else p::mpPut r a b m:=by
 unfold mpPut
 rw [mpGo]
 unfold keyP
 cases (a==p.1.1&&b==p.1.2) with
 |true=>rfl
 |false=>
  simp only [cond_false]
  rw [mpGo_shift]
  cases mpGo a b 0 r<;>rfl
theorem del_cons (a b:Int) (p:(Int×Int)×Int) (r:MapT):mpDel (p::r) a b=bif keyP a b p then r else p::mpDel r a b:=by
 unfold mpDel
 rw [mpGo]
 unfold keyP
 cases (a==p.1.1&&b==p.1.2) with
 |true=>rfl
 |false=>
  simp only [cond_false]
  rw [mpGo_shift]
  cases mpGo a b 0 r<;>rfl
theorem keyP_eq {a b:Int} {p:(Int×Int)×Int} (h:keyP a b p=true):p.1=(a,b):=by
 unfold keyP at h
 rw [Bool.and_eq_true,beq_iff_eq,beq_iff_eq] at h
 rw [h.1,h.2]
theorem keyP_key (a b a' b' m:Int):keyP a' b' ((a,b),m)=(a==a'&&b==b'):=by
 unfold keyP
 show (a'==a&&b'==b)=_
 rw [show (a'==a)=(a==a') from BEq.comm,show (b'==b)=(b==b') from BEq.comm]
structure MapOk (T:MapT):Prop where
 keys:T.Pairwise fun p q=>p.1≠q.1
 vals:∀ p∈T,0≤p.2∧p.2<65536
theorem get_put (a b m a' b':Int):∀ T:MapT,mpGet (mpPut T a b m) a' b'=bif a==a'&&b==b' then m else mpGet T a' b'
 |[]=>by
  show mpGet [((a,b),m)] a' b'=_
  rw [get_cons,keyP_key]
 |p::r=>by
  rw [put_cons]
  cases h:keyP a b p with
  |true=>
   rw [cond_true,get_cons,get_cons,keyP_key]
   cases hq:(a==a'&&b==b') with
   |true=>rfl
   |false=>
    have:keyP a' b' p=false:=by
     obtain ⟨⟨p1,p2⟩,p3⟩:=p
     have hk:=keyP_eq h
     simp only [Prod.mk.injEq] at hk
     obtain ⟨rfl,rfl⟩:=hk
     rw [keyP_key];exact hq
    rw [this];rfl
  |false=>
   rw [cond_false,get_cons,get_cons,get_put a b m a' b' r]
   cases h2:keyP a' b' p with
   |false=>rfl
   |true=>
    rw [cond_true,cond_true]
    cases hq:(a==a'&&b==b') with
    |false=>rfl
    |true=>
     rw [Bool.and_eq_true,beq_iff_eq,beq_iff_eq] at hq
     obtain ⟨rfl,rfl⟩:=hq
     rw [h] at h2;cases h2
theorem get_none (a b:Int):∀ T:MapT,(∀ p∈T,p.1≠(a,b))→mpGet T a b=0
 |[],_=>rfl
 |p::r,h=>by
  rw [get_cons]
  cases hk:keyP a b p with
  |true=>exact absurd (keyP_eq hk) (h p (List.mem_cons_self ..))
  |false=>exact get_none a b r fun q hq=>h q (List.mem_cons_of_mem _ hq)
theorem get_del (a b a' b':Int):∀ T:MapT,(T.Pairwise fun p q=>p.1≠q.1)→mpGet (mpDel T a b) a' b'=bif a==a'&&b==b' then 0 else mpGet T a' b'
 |[],_=>by show (0:Int)=bif _ then 0 else 0;cases (a==a'&&b==b')<;>rfl
 |p::r,h=>by
  rw [List.pairwise_cons] at h
  rw [del_cons]
  cases hk:keyP a b p with
  |true=>
   rw [cond_true,get_cons]
   have hp:=keyP_eq hk
   cases hq:(a==a'&&b==b') with
   |true=>
    rw [Bool.and_eq_true,beq_iff_eq,beq_iff_eq] at hq
    obtain ⟨rfl,rfl⟩:=hq
    rw [cond_true]
    exact get_none _ _ r fun q hq he=>h.1 q hq (hp.trans he.symm)
   |false=>
    have:keyP a' b' p=false:=by
     obtain ⟨⟨p1,p2⟩,p3⟩:=p
     simp only [Prod.mk.injEq] at hp
     obtain ⟨rfl,rfl⟩:=hp
     rw [keyP_key];exact hq
    rw [this];rfl
  |false=>
   rw [cond_false,get_cons,get_cons,get_del a b a' b' r h.2]
   cases h2:keyP a' b' p with
   |false=>rfl
   |true=>
    rw [cond_true,cond_true]
    cases hq:(a==a'&&b==b') with
    |false=>rfl
    |true=>
     rw [Bool.and_eq_true,beq_iff_eq,beq_iff_eq] at hq
     obtain ⟨rfl,rfl⟩:=hq
     rw [hk] at h2;cases h2
theorem put_mem {a b m:Int} {q:(Int×Int)×Int}:∀ {T:MapT},q∈mpPut T a b m→q=((a,b),m)∨q∈T
 |[],h=>.inl (by simpa [mpPut,mpGo] using h)
 |p::r,h=>by
  rw [put_cons] at h
  cases hk:keyP a b p with
  |true=>
   rw [hk,cond_true] at h
   rcases List.mem_cons.1 h with h|h
   ·exact .inl h
   ·exact .inr (List.mem_cons_of_mem _ h)
  |false=>
   rw [hk,cond_false] at h
   rcases List.mem_cons.1 h with rfl|h
   ·exact .inr (List.mem_cons_self ..)
   ·rcases put_mem h with h|h
    ·exact .inl h
    ·exact .inr (List.mem_cons_of_mem _ h)
theorem put_keys (a b m:Int):∀ {T:MapT},(T.Pairwise fun p q=>p.1≠q.1)→(mpPut T a b m).Pairwise fun p q=>p.1≠q.1
 |[],_=>by show List.Pairwise _ [((a,b),m)];exact List.pairwise_singleton _ _
 |p::r,h=>by
  rw [List.pairwise_cons] at h
  rw [put_cons]
  cases hk:keyP a b p with
  |true=>
   rw [cond_true,List.pairwise_cons]
   exact ⟨fun q hq he=>h.1 q hq ((keyP_eq hk).trans he),h.2⟩
  |false=>
   rw [cond_false,List.pairwise_cons]
   refine ⟨fun q hq he=>?_,put_keys a b m h.2⟩
   rcases put_mem hq with rfl|hq
   ·have:keyP a b p=true:=by unfold keyP;rw [he];simp
    rw [hk] at this;cases this
   ·exact h.1 q hq he
theorem del_sub (a b:Int):∀ T:MapT,(mpDel T a b).Sublist T
 |[]=>List.Sublist.refl _
 |p::r=>by
  rw [del_cons]
  cases keyP a b p with
  |true=>exact List.sublist_cons_self _ _
  |false=>exact (del_sub a b r).cons_cons p
theorem get_in {T:MapT} (h:∀ p∈T,0≤p.2∧p.2<65536) (a b:Int):0≤mpGet T a b∧mpGet T a b<65536:=by
 induction T with
 |nil=>exact ⟨Int.le_refl _,(by decide:(0:Int)<65536)⟩
 |cons p r ih=>
  rw [get_cons]
  cases keyP a b p with
  |true=>exact h p (List.mem_cons_self ..)
  |false=>exact ih fun q hq=>h q (List.mem_cons_of_mem _ hq)
theorem st_ok {T:MapT} (h:MapOk T) {a b m:Int} (hm:0≤m∧m<65536):MapOk (stT T a b m):=by
 unfold stT
 cases m==0 with
 |true=>exact ⟨h.keys.sublist (del_sub a b T),fun p hp=>h.vals p ((del_sub a b T).subset hp)⟩
 |false=>
  refine ⟨put_keys a b m h.keys,fun p hp=>?_⟩
  rcases put_mem hp with rfl|hp
  ·exact hm
  ·exact h.vals p hp
theorem get_st {T:MapT} (h:MapOk T) (a b m a' b':Int):mpGet (stT T a b m) a' b'=bif a==a'&&b==b' then m else mpGet T a' b':=by
 unfold stT
 cases hm:m==0 with
 |true=>rw [cond_true,get_del _ _ _ _ _ h.keys,eq_of_beq hm]
 |false=>rw [cond_false,get_put]
theorem md_set {T:MapT} (h:MapOk T) (a b:Int) {c x:Int} (hc:0≤c∧c<8) (hx:0≤x∧x<4) (a' b' d:Int):mdE (stT T a b (wiE (mpGet T a b) c x)) a' b' d=bif a==a'&&(b==b'&&true)&&c==d then x else mdE T a' b' d:=by
 unfold mdE
 rw [get_st h,Bool.and_true]
 cases hi:inE d with
 |false=>
  have:(c==d)=false:=by
   rw [beq_eq_false_iff_ne]
   intro e
   rw [← e,inE_of hc] at hi;cases hi
  rw [this,Bool.and_false];rfl
 |true=>
  rw [cond_true]
  cases hq:(a==a'&&b==b') with
  |false=>rfl
  |true=>
   rw [Bool.and_eq_true,beq_iff_eq,beq_iff_eq] at hq
   obtain ⟨rfl,rfl⟩:=hq
   rw [cond_true,of_wi (get_in h.vals _ _) hc (inE_in hi) hx,Bool.true_and];rfl
theorem md_out {T:MapT} {a b d:Int} (h:¬ (0≤d∧d<8)):mdE T a b d=0:=by
 unfold mdE
 cases hi:inE d with
 |false=>rfl
 |true=>exact absurd (inE_in hi) h
theorem at_split (Y:List Rw) (a b c:Int):(atE Y a b c=-1∧Y.any (hitr a b c)=false)∨∃ P r S,Y=P++r::S∧atE Y a b c=(P.length:Int)∧hitr a b c r=true∧P.any (hitr a b c)=false:=by
 unfold atE
 rcases fst_cases Y.length (atP Y a b c) with ⟨hv,hall⟩|⟨h1,h2,h3,h4⟩
 ·refine .inl ⟨hv,?_⟩
  rw [← hs_any];unfold hsE;rw [hv];rfl
 ·refine .inr ⟨Y.take (fstI Y.length (atP Y a b c)).toNat,Y[(fstI Y.length (atP Y a b c)).toNat],Y.drop ((fstI Y.length (atP Y a b c)).toNat+1),?_,?_,?_,?_⟩
  ·rw [← List.drop_eq_getElem_cons h2,List.take_append_drop]
  ·rw [List.length_take];omega
  ·have h:=hit_yes h3
   unfold hitR at h
   rw [getD_at h2] at h
   exact h
  ·rw [List.any_eq_false]
   intro x hx
   obtain ⟨q,hq,rfl⟩:=List.mem_iff_getElem.1 hx
   rw [List.length_take] at hq
   rw [List.getElem_take]
   have h:=hit_no (h4 (q:Int) (by omega) (by omega))
   unfold hitR at h
   rw [Int.toNat_natCast,getD_at (by omega)] at h
   unfold hitr
   rw [h];decide
def fm (Y:List Rw) (a b c:Int):Int:=match Y.find? (hitr a b c) with|some r=>r.is.getD 3 0|none=>0
theorem fm_none {Y:List Rw} {a b c:Int} (h:Y.any (hitr a b c)=false):Y.find? (hitr a b c)=none:=by
 rw [List.find?_eq_none]
 intro x hx he
 rw [List.any_eq_false] at h
 exact h x hx he
theorem rm_fm (Y:List Rw) (a b c:Int):rmE Y a b c=fm Y a b c:=by
 unfold rmE fm
 rcases at_split Y a b c with ⟨h1,h2⟩|⟨P,r,S,rfl,h2,h3,h4⟩
 ·rw [h1,fm_none h2];rfl
 ·rw [h2,decide_eq_false (by omega),cond_false,List.find?_append,fm_none h4,List.find?_cons,h3,Int.toNat_natCast]
  have hrow:(P++r::S).getD P.length Rw.zero=r:=by
   rw [List.getD_eq_getElem?_getD,List.getElem?_append_right (Nat.le_refl _),Nat.sub_self];rfl
  rw [hrow]
  rfl
theorem hitr_other {a b c a' b' c':Int} {r:Rw} (h:hitr a b c r=true):hitr a' b' c' r=(a==a'&&(b==b'&&true)&&c==c'):=by
 obtain ⟨rfl,rfl,rfl⟩:=hitr_eq h
 rfl
theorem fm_new (Y:List Rw) {a b c md:Int} (h:Y.any (hitr a b c)=false) (a' b' c':Int):fm (Y++[⟨[a,b,c,md],[]⟩]) a' b' c'=bif a==a'&&(b==b'&&true)&&c==c' then md else fm Y a' b' c':=by
 unfold fm
 rw [List.find?_append]
 have hn:hitr a' b' c' ⟨[a,b,c,md],[]⟩=(a==a'&&(b==b'&&true)&&c==c'):=rfl
 cases hq:(a==a'&&(b==b'&&true)&&c==c') with
 |true=>
  rw [Bool.and_eq_true,Bool.and_eq_true,Bool.and_true,beq_iff_eq,beq_iff_eq,beq_iff_eq] at hq
  obtain ⟨⟨rfl,rfl⟩,rfl⟩:=hq
  rw [fm_none h,List.find?_cons,hn]
  simp
 |false=>
  rw [hq] at hn
  rw [List.find?_cons,hn,List.find?_nil,Option.or_none];rfl
theorem fm_mid (P S:List Rw) (r:Rw) {a b c:Int} (hr:hitr a b c r=true) (hP:P.any (hitr a b c)=false) (a' b' c':Int):fm (P++r::S) a' b' c'=bif a==a'&&(b==b'&&true)&&c==c' then r.is.getD 3 0 else fm (P++S) a' b' c':=by
 unfold fm
 rw [List.find?_append,List.find?_append,List.find?_cons,hitr_other hr]
 cases hq:(a==a'&&(b==b'&&true)&&c==c') with
 |true=>
  rw [Bool.and_eq_true,Bool.and_eq_true,Bool.and_true,beq_iff_eq,beq_iff_eq,beq_iff_eq] at hq
  obtain ⟨⟨rfl,rfl⟩,rfl⟩:=hq
  rw [fm_none hP];rfl
 |false=>rfl
structure TabOk (Z:MapT) (R:List Rw):Prop where
 map:MapOk Z
 same:∀ a b c,mdE Z a b c=fm R a b c
 rows:∀ r∈R,1≤r.is.getD 3 0∧r.is.getD 3 0≤2
 one:R.Pairwise fun r s=>¬ hitr (r.is.getD 0 0) (r.is.getD 1 0) (r.is.getD 2 0) s=true
theorem TabOk.nil:TabOk [] []:=⟨⟨List.Pairwise.nil,fun p hp=>by cases hp⟩,fun a b c=>by
 show mdE [] a b c=0
 unfold mdE
 cases hi:inE c with
 |false=>rfl
 |true=>exact of_zero (inE_in hi),fun r hr=>(by cases hr),List.Pairwise.nil⟩
theorem TabOk.rm {Z:MapT} {R:List Rw} (h:TabOk Z R) (a b c:Int):rmE R a b c=mdE Z a b c:=by rw [rm_fm,h.same]
theorem fm_in {R:List Rw} (h:∀ r∈R,1≤r.is.getD 3 0∧r.is.getD 3 0≤2) (a b c:Int):(R.any (hitr a b c)=false∧fm R a b c=0)∨(R.any (hitr a b c)=true∧1≤fm R a b c∧fm R a b c≤2):=by
 unfold fm
 cases hf:R.find? (hitr a b c) with
 |none=>
  refine .inl ⟨?_,rfl⟩
  rw [List.any_eq_false]
  exact fun x hx=>List.find?_eq_none.1 hf x hx
 |some r=>
  have hr:=List.mem_of_find?_eq_some hf
  refine .inr ⟨?_,h r hr⟩
  rw [List.any_eq_true]
  exact ⟨r,hr,List.find?_some hf⟩
theorem TabOk.md {Z:MapT} {R:List Rw} (h:TabOk Z R) (a b c:Int):0≤mdE Z a b c∧mdE Z a b c≤2:=by
 rw [h.same]
 rcases fm_in h.rows a b c with ⟨_,h1⟩|⟨_,h1⟩<;>omega
theorem ot_rng (Y:List Rw) (a b cl md:Int):∀ k,ot1S Y a b cl md k=(rng k).filter fun c=>c != cl&&decide (rmE Y a b c>0)&&(md==2||rmE Y a b c==2)
 |0=>rfl
 |k+1=>by
  rw [rng_succ,List.filter_append,←ot_rng Y a b cl md k,ot1S]
  cases h:((k:Int) != cl&&decide (rmE Y a b (k:Int)>0)&&(md==2||rmE Y a b (k:Int)==2)) with
  |true=>rw [cond_true];congr 1;simp only [List.filter_cons,h];rfl
  |false=>rw [cond_false];simp only [List.filter_cons,h];simp
theorem TabOk.oth {Z:MapT} {R:List Rw} (h:TabOk Z R) (a b cl md:Int):ot1S R a b cl md 8=othE Z a b cl md:=by
 rw [ot_rng,oth_rng]
 congr 1
 funext c
 unfold inWay
 rw [h.rm]
 have h0:=h.md a b c
 have e:decide (mdE Z a b c>0)=(mdE Z a b c != 0):=by
  rw [Bool.eq_iff_iff,decide_eq_true_eq,bne_iff_ne]
  omega
 rw [e]
 cases (c != cl)<;>cases (mdE Z a b c != 0)<;>cases (md==2||mdE Z a b c==2)<;>rfl
theorem one_mid {P S:List Rw} {r:Rw} (h:(P++r::S).Pairwise fun r s=>¬ hitr (r.is.getD 0 0) (r.is.getD 1 0) (r.is.getD 2 0) s=true) {a b c:Int} (hr:hitr a b c r=true):S.any (hitr a b c)=false:=by
 rw [List.any_eq_false]
 intro x hx he
 have h1:=(List.pairwise_append.1 h).2.1
 rw [List.pairwise_cons] at h1
 obtain ⟨rfl,rfl,rfl⟩:=hitr_eq hr
 exact h1.1 x hx he
theorem TabOk.grant {Z:MapT} {R:List Rw} (h:TabOk Z R) (a b c md:Int):TabOk (grT Z a b c md) (rgT R a b c md)∧(rgT R a b c md).length≤R.length+1:=by
 unfold grT rgT
 have hb:(!inE c||md != 1&&md != 2)=(decide (c<0)||decide (c>7)||decide (md<1)||decide (md>2)):=by
  unfold inE
  rw [Bool.eq_iff_iff]
  simp
  omega
 rw [hb,h.oth]
 cases hbad:(decide (c<0)||decide (c>7)||decide (md<1)||decide (md>2)) with
 |true=>exact ⟨h,by simp only [cond_true];omega⟩
 |false=>
  simp only [Bool.or_eq_false_iff,decide_eq_false_iff_not] at hbad
  have hc:0≤c∧c<8:=by omega
  have hmd:1≤md∧md≤2:=by omega
  cases decide (((othE Z a b c md).length:Int)>0) with
  |true=>exact ⟨h,by simp only [cond_true,cond_false];omega⟩
  |false=>
   simp only [cond_false]
   have hm:=h.md a b c
   generalize hx:(if mdE Z a b c>md then mdE Z a b c else md)=x
   have hxr:1≤x∧x≤2:=by subst hx;split<;>omega
   have hmap:MapOk (stT Z a b (wiE (mpGet Z a b) c x)):=st_ok h.map (wi_in (get_in h.map.vals _ _) _ _)
   have hset:=fun a' b' d=>md_set h.map a b hc (x:=x) ⟨by omega,by omega⟩ a' b' d
   rcases at_split R a b c with ⟨h1,h2⟩|⟨P,r,S,hR,h2,h3,h4⟩
   ·rw [h1]
    simp only [show decide ((-1:Int)<0)=true from rfl,cond_true]
    have h0:mdE Z a b c=0:=by
     rw [h.same]
     rcases fm_in h.rows a b c with ⟨_,h5⟩|⟨h5,_⟩
     ·exact h5
     ·rw [h2] at h5;cases h5
    have hxe:x=md:=by rw [← hx,h0,if_neg (by omega)]
    refine ⟨⟨hmap,fun a' b' d=>?_,fun r hr=>?_,?_⟩,by simp⟩
    ·rw [hset,fm_new R h2,h.same,hxe]
    ·rcases List.mem_append.1 hr with hr|hr
     ·exact h.rows r hr
     ·rw [List.mem_singleton] at hr;subst hr;exact hmd
    ·rw [List.pairwise_append]
     refine ⟨h.one,List.pairwise_singleton _ _,fun p hp q hq he=>?_⟩
     rw [List.mem_singleton] at hq;subst hq
     rw [List.any_eq_false] at h2
     obtain ⟨e0,e1,e2⟩:=hitr_eq he
     exact h2 p hp (hitr_of e0.symm e1.symm e2.symm)
   ·have hrow:R.getD (atE R a b c).toNat Rw.zero=r:=by
     rw [h2,Int.toNat_natCast,hR,List.getD_eq_getElem?_getD,List.getElem?_append_right (Nat.le_refl _),Nat.sub_self];rfl
    have hold:mdE Z a b c=r.is.getD 3 0:=by
     rw [h.same,hR,fm_mid P S r h3 h4];simp
    rw [hrow,h2]
    rw [show decide ((P.length:Int)<0)=false from decide_eq_false (by omega),cond_false]
    obtain ⟨e0,e1,e2⟩:=hitr_eq h3
    cases hlow:decide (r.is.getD 3 0<md) with
    |true=>
     have hlt:=of_decide_eq_true hlow
     have hxe:x=md:=by rw [← hx,hold,if_neg (by omega)]
     rw [cond_true]
     have hs:R.set (P.length:Int).toNat ⟨[r.is.getD 0 0,r.is.getD 1 0,r.is.getD 2 0,md],[]⟩=P++⟨[r.is.getD 0 0,r.is.getD 1 0,r.is.getD 2 0,md],[]⟩::S:=by
      rw [hR,Int.toNat_natCast,List.set_append_right _ _ (Nat.le_refl _),Nat.sub_self];rfl
     rw [hs]
     have hn3:hitr a b c ⟨[r.is.getD 0 0,r.is.getD 1 0,r.is.getD 2 0,md],[]⟩=true:=hitr_of e0 e1 e2
     refine ⟨⟨hmap,fun a' b' d=>?_,fun q hq=>?_,?_⟩,by rw [hR];simp⟩
     ·rw [hset,fm_mid P S _ hn3 h4,h.same,hR,fm_mid P S r h3 h4,hxe]
      cases (a==a'&&(b==b'&&true)&&c==d)<;>rfl
     ·rcases List.mem_append.1 hq with hq|hq
      ·exact h.rows q (by rw [hR];exact List.mem_append_left _ hq)
      ·rcases List.mem_cons.1 hq with rfl|hq
       ·exact hmd
       ·exact h.rows q (by rw [hR];exact List.mem_append_right _ (List.mem_cons_of_mem _ hq))
     ·have ho:=h.one
      rw [hR,List.pairwise_append,List.pairwise_cons] at ho
      rw [List.pairwise_append,List.pairwise_cons]
      refine ⟨ho.1,⟨fun q hq=>ho.2.1.1 q hq,ho.2.1.2⟩,fun p hp q hq=>?_⟩
      rcases List.mem_cons.1 hq with rfl|hq
      ·exact ho.2.2 p hp r (List.mem_cons_self ..)
      ·exact ho.2.2 p hp q (List.mem_cons_of_mem _ hq)
    |false=>
     have hge:=of_decide_eq_false hlow
     have hxe:x=r.is.getD 3 0:=by
      rw [← hx,hold]
      split<;>omega
     rw [cond_false]
     refine ⟨⟨hmap,fun a' b' d=>?_,h.rows,h.one⟩,by omega⟩
     rw [hset,h.same,hR,fm_mid P S r h3 h4,hxe]
     cases (a==a'&&(b==b'&&true)&&c==d)<;>rfl
theorem TabOk.drop {Z:MapT} {R:List Rw} (h:TabOk Z R) (a b c:Int):TabOk (drT Z a b c) (rdT R a b c)∧(rdT R a b c).length≤R.length:=by
 unfold drT rdT
 rcases at_split R a b c with ⟨h1,h2⟩|⟨P,r,S,hR,h2,h3,h4⟩
 ·have h0:mdE Z a b c=0:=by
   rw [h.same]
   rcases fm_in h.rows a b c with ⟨_,h5⟩|⟨h5,_⟩
   ·exact h5
   ·rw [h2] at h5;cases h5
  rw [h1,h0]
  exact ⟨h,Nat.le_refl _⟩
 ·have hold:mdE Z a b c=r.is.getD 3 0:=by
   rw [h.same,hR,fm_mid P S r h3 h4];simp
  have hr:=h.rows r (by rw [hR];exact List.mem_append_right _ (List.mem_cons_self ..))
  have hc:0≤c∧c<8:=by
   by_cases hc:0≤c∧c<8
   ·exact hc
   ·have:=md_out (T:=Z) (a:=a) (b:=b) hc
    omega
  have ht:R.take P.length++R.drop (P.length+1)=P++S:=by
   rw [hR,List.take_append_of_le_length (Nat.le_refl _),List.take_of_length_le (Nat.le_refl _)]
   congr 1
   rw [List.drop_append,List.drop_of_length_le (by omega),show P.length+1 - P.length=1 by omega];rfl
  rw [h2,show (mdE Z a b c==0)=false by rw [beq_eq_false_iff_ne];omega,show decide ((P.length:Int)<0)=false from decide_eq_false (by omega),cond_false,cond_false,Int.toNat_natCast,ht]
  have hmap:MapOk (stT Z a b (wiE (mpGet Z a b) c 0)):=st_ok h.map (wi_in (get_in h.map.vals _ _) _ _)
  have hS:S.any (hitr a b c)=false:=one_mid (by rw [← hR];exact h.one) h3
  refine ⟨⟨hmap,fun a' b' d=>?_,fun q hq=>?_,?_⟩,by rw [hR];simp⟩
  ·rw [md_set h.map a b hc ⟨by omega,by omega⟩,h.same,hR,fm_mid P S r h3 h4]
   cases hq:(a==a'&&(b==b'&&true)&&c==d) with
   |false=>rfl
   |true=>
    rw [Bool.and_eq_true,Bool.and_eq_true,Bool.and_true,beq_iff_eq,beq_iff_eq,beq_iff_eq] at hq
    obtain ⟨⟨rfl,rfl⟩,rfl⟩:=hq
    rw [cond_true]
    unfold fm
    rw [fm_none (by rw [List.any_append,h4,hS];rfl)]
  ·refine h.rows q ?_
   rw [hR]
   rcases List.mem_append.1 hq with hq|hq
   ·exact List.mem_append_left _ hq
   ·exact List.mem_append_right _ (List.mem_cons_of_mem _ hq)
  ·have ho:=h.one
   rw [hR,List.pairwise_append,List.pairwise_cons] at ho
   rw [List.pairwise_append]
   exact ⟨ho.1,ho.2.1.2,fun p hp q hq=>ho.2.2 p hp q (List.mem_cons_of_mem _ hq)⟩
structure RcDo where
 kind:Int
 c:Int
 m:Int
 a:Int
 b:Int
def RcDo.zero:RcDo:=⟨0,0,0,0,0⟩
def rcEl (l:List RcDo) (i:Nat):List CD:=[.v (.int .i64 (l.getD i RcDo.zero).kind),.v (.int .i64 (l.getD i RcDo.zero).c),.v (.int .i64 (l.getD i RcDo.zero).m),.v (.int .i64 (l.getD i RcDo.zero).a),.v (.int .i64 (l.getD i RcDo.zero).b)]
def dK (l:List RcDo) (k:Nat):RcDo:=l.getD ((k:Int).toNat) RcDo.zero
def m6 (l:List RcDo) (Y X:List Rw) (Z:List ((Int×Int)×Int)) (R:List Rw):Mem Td:=[⟨.us (.ext (.shr 5 l.length (rcEl l))),false⟩,⟨.bx [.obj 7],true⟩,⟨.dead,true⟩,⟨.bx [.obj 4],true⟩,⟨.us (.ext (.mp Z)),true⟩,⟨.bx [.obj 8],true⟩,⟨.bx [.obj 9],true⟩,⟨.us (.ext (.flat (.rw 72 [false,false,false] Y))),true⟩,⟨.us (.ext (.flat (.rw 176 [false,false,false] X))),true⟩,⟨.us (.ext (.flat (.rw 178 [false,false,false,false] R))),true⟩]
def sdRP (P:Program):Sy Td:=(⟨P,[(35,ctrF Id' C_pwt hardD),(49,ctrF Id' C_rwt hardD),(50,ctrV C_rhs22 hardD),(51,ctrF Id' C_rdq hardD),(45,ctrF Id' C_qD hardD),(46,ctrF Id' C_qG hardD),(47,ctrF Id' C_qC hardD),(41,ctrF Id' C_qS hardD),(54,ctrF Id' C_rse hardD),(36,ctrF Id' C_tgr hardD),(52,ctrF Id' C_rgr hardD),(37,ctrF Id' C_tdr hardD),(53,ctrF Id' C_rdr hardD),(40,ctrF Id' C_pne hardD),(55,ctrF Id' C_rne hardD),(56,ctrF Id' C_alq hardD)],[E_of P 57,E_of P 72],dkHo,Id'.one,60⟩:Sy Td)
theorem sdRP_ok (W0:World) (G:Nat→Prop):SyOk (sdRP Try.prog) Id' W0 G:=(fun (W0:World) (G:Nat→Prop)=>SyOk.mk2 Try.mixed dkHo_ok (FnsR.cons (R_pwt) (FnsR.cons (R_rwt) (FnsR.cons (R_rhs22) (FnsR.cons (R_rdq) (FnsR.cons (R_qD) (FnsR.cons (R_qG) (FnsR.cons (R_qC) (FnsR.cons (R_qS) (FnsR.cons (R_rse) (FnsR.cons (R_tgr) (FnsR.cons (R_rgr) (FnsR.cons (R_tdr) (FnsR.cons (R_rdr) (FnsR.cons (R_pne) (FnsR.cons (R_rne) (FnsR.cons (R_alq) (FnsR.nil))))))))))))))))) (E_of_ok (by kernel_rfl) (E_of_ok (by kernel_rfl) (EqsOk.nil)))) W0 G
theorem rpl_k0 (l:List RcDo) (Y Yn:List Rw) (Z Zn:List ((Int×Int)×Int)) (R Rn:List Rw) (k:Nat) (f:Nat→Value) (h0:(decide ((k:Int)<(l.length:Int))&&decide ((k:Int)<60))=true) (h1:0≤(k:Int)∧(k:Int).toNat<l.length) (h2:IntKind.i64.wrap ((k:Int)+1)=((k+1:Nat):Int)) (h3:((dK l k).kind==0)=true) (h4:(!wtE Y (dK l k).a (dK l k).b (dK l k).c==wtE Y (dK l k).a (dK l k).b (dK l k).c)=false) (h5:Y.length≤9000) (h6:Y.length≤10000) (h7:Y.length≤100000) (h8:List.map nr3 Y=Y) (h9:R.length≤10000) (h10:R.length≤100000) (h11:(wtT Y (dK l k).a (dK l k).b (dK l k).c)=wtT Y (dK l k).a (dK l k).b (dK l k).c) (h12:(wtT Y (dK l k).a (dK l k).b (dK l k).c).length≤10000) (h13:(wtT Y (dK l k).a (dK l k).b (dK l k).c)=Yn) (h14:wtT Y (dK l k).a (dK l k).b (dK l k).c=Yn) (h15:Z=Zn) (h16:R=Rn):∃ qs,alN Id' 7 [(7,.c (.one (.v (.int .i64 ((k+1:Nat):Int)))))] (m6 l Yn Yn Zn Rn) ((symC (sdRP Try.prog) [] 169 (hdC (loopsC (bodyOf Try.f6)) 0) ⟨[(7,.c (.one (.v (.int .i64 (k:Int)))))]++anyB' (writesC (hdC (loopsC (bodyOf Try.f6)) 0)) ([(0,.c (.one (.obj 0))),(3,.c (.one (.ptr 1 0))),(4,.c (.one (.ptr 3 0))),(5,.c (.one (.ptr 5 0))),(6,.c (.one (.ptr 6 0)))]++tabV f 169),(m6 l Y Y Z R),0⟩).al [true,true,false,false])=some qs∧∀ q∈qs,q:=
 ⟨[(decide ((↑k:Int)<(↑l.length:Int))&&decide ((↑k:Int)<(60:Int)))=true,(0:Int)≤(↑k:Int)∧(↑k:Int).toNat<l.length,((dK l k).kind==(0:Int))=true,Y.length≤(10000:Nat),Y.length≤(10000:Nat),(!wtE Y (dK l k).a (dK l k).b (dK l k).c==wtE Y (dK l k).a (dK l k).b (dK l k).c)=false,wtT Y (dK l k).a (dK l k).b (dK l k).c=wtT Y (dK l k).a (dK l k).b (dK l k).c,(wtT Y (dK l k).a (dK l k).b (dK l k).c).length≤(10000:Nat),(!wtE Y (dK l k).a (dK l k).b (dK l k).c==wtE Y (dK l k).a (dK l k).b (dK l k).c)=false,false=false,(Th.ext (Dk.shr 5 l.length (rcEl l)):Td)=Th.ext (Dk.shr 5 l.length (rcEl l)),(Th.ext (Dk.mp Z):Td)=Th.ext (Dk.mp Zn),(Th.ext (Dk.flat (FL.rw 72 [false,false,false] (wtT Y (dK l k).a (dK l k).b (dK l k).c))):Td)=Th.ext (Dk.flat (FL.rw 72 [false,false,false] (Yn))),(Th.ext (Dk.flat (FL.rw 176 [false,false,false] (wtT Y (dK l k).a (dK l k).b (dK l k).c))):Td)=Th.ext (Dk.flat (FL.rw 176 [false,false,false] (Yn))),(Th.ext (Dk.flat (FL.rw 178 [false,false,false,false] (R))):Td)=Th.ext (Dk.flat (FL.rw 178 [false,false,false,false] (Rn))),Value.int IntKind.i64 (IntKind.i64.wrap ((↑k:Int)+(1:Int)))=Value.int IntKind.i64 (↑(k+(1:Nat)):Int)],by kernel_rfl,(by refine mcons ?_ (mcons ?_ (mcons ?_ (mcons ?_ (mcons ?_ (mcons ?_ (mcons ?_ (mcons ?_ (mcons ?_ (mcons ?_ (mcons ?_ (mcons ?_ (mcons ?_ (mcons ?_ (mcons ?_ (mcons ?_ mnil)))))))))))))))<;>first|rfl|exact h0|exact h1|exact h2|exact h3|exact h4|exact h5|exact h6|exact h7|exact h8|exact h9|exact h10|exact h11|exact h12|exact h13|exact h14|exact h15|exact h16|trivial|(exact congrArg (fun x=>(Th.ext (Dk.flat (FL.rw 72 [false,false,false] x)):Td)) h13)|(exact congrArg (fun x=>(Th.ext (Dk.flat (FL.rw 176 [false,false,false] x)):Td)) h14)|(exact congrArg (fun x=>(Th.ext (Dk.flat (FL.rw 178 [false,false,false,false] x)):Td)) h16)|(exact congrArg (fun x=>(Th.ext (Dk.mp x):Td)) h15)|(exact congrArg (Value.int .i64) h2))⟩
theorem rpl_k1 (l:List RcDo) (Y Yn:List Rw) (Z Zn:List ((Int×Int)×Int)) (R Rn:List Rw) (k:Nat) (f:Nat→Value) (h0:(decide ((k:Int)<(l.length:Int))&&decide ((k:Int)<60))=true) (h1:0≤(k:Int)∧(k:Int).toNat<l.length) (h2:IntKind.i64.wrap ((k:Int)+1)=((k+1:Nat):Int)) (h3:((dK l k).kind==0)=false) (h4:((dK l k).kind==1)=true) (h5:hsE Y (dK l k).a (dK l k).b (dK l k).c=true) (h6:(!qdE Y (dK l k).a (dK l k).b (dK l k).c==0)=false) (h7:Y.length≤9000) (h8:Y.length≤10000) (h9:Y.length≤100000) (h10:List.map nr3 Y=Y) (h11:R.length≤10000) (h12:R.length≤100000) (h13:(Y.filter fun r=>!hitD (dK l k).a (dK l k).b (dK l k).c r)=gaR (drP (dK l k).c false (dK l k).a (dK l k).b) Y Y.length) (h14:(Y.filter fun r=>!hitD (dK l k).a (dK l k).b (dK l k).c r).length≤10000) (h15:(Y.filter fun r=>!hitD (dK l k).a (dK l k).b (dK l k).c r)=Yn) (h16:gaR (drP (dK l k).c false (dK l k).a (dK l k).b) Y Y.length=Yn) (h17:Z=Zn) (h18:R=Rn):∃ qs,alN Id' 7 [(7,.c (.one (.v (.int .i64 ((k+1:Nat):Int)))))] (m6 l Yn Yn Zn Rn) ((symC (sdRP Try.prog) [] 169 (hdC (loopsC (bodyOf Try.f6)) 0) ⟨[(7,.c (.one (.v (.int .i64 (k:Int)))))]++anyB' (writesC (hdC (loopsC (bodyOf Try.f6)) 0)) ([(0,.c (.one (.obj 0))),(3,.c (.one (.ptr 1 0))),(4,.c (.one (.ptr 3 0))),(5,.c (.one (.ptr 5 0))),(6,.c (.one (.ptr 6 0)))]++tabV f 169),(m6 l Y Y Z R),0⟩).al [true,false,true,true,false,false])=some qs∧∀ q∈qs,q:=
 ⟨[(decide ((↑k:Int)<(↑l.length:Int))&&decide ((↑k:Int)<(60:Int)))=true,(0:Int)≤(↑k:Int)∧(↑k:Int).toNat<l.length,((dK l k).kind==(0:Int))=false,((dK l k).kind==(1:Int))=true,Y.length≤(100000:Nat),hsE Y (dK l k).a (dK l k).b (dK l k).c=true,Y.length≤(10000:Nat),Y.length≤(100000:Nat),List.map nr3 Y=Y,(!qdE Y (dK l k).a (dK l k).b (dK l k).c==(0:Int))=false,(Y.filter fun r=>!hitD (dK l k).a (dK l k).b (dK l k).c r)=gaR (drP (dK l k).c false (dK l k).a (dK l k).b) Y Y.length,(List.filter (fun r=>!hitD (dK l k).a (dK l k).b (dK l k).c r) Y).length≤(10000:Nat),(!qdE Y (dK l k).a (dK l k).b (dK l k).c==(0:Int))=false,false=false,(Th.ext (Dk.shr 5 l.length (rcEl l)):Td)=Th.ext (Dk.shr 5 l.length (rcEl l)),(Th.ext (Dk.mp Z):Td)=Th.ext (Dk.mp Zn),(Th.ext (Dk.flat (FL.rw 72 [false,false,false] (Y.filter fun r=>!hitD (dK l k).a (dK l k).b (dK l k).c r))):Td)=Th.ext (Dk.flat (FL.rw 72 [false,false,false] (Yn))),(Th.ext (Dk.flat (FL.rw 176 [false,false,false] (gaR (drP (dK l k).c false (dK l k).a (dK l k).b) Y Y.length))):Td)=Th.ext (Dk.flat (FL.rw 176 [false,false,false] (Yn))),(Th.ext (Dk.flat (FL.rw 178 [false,false,false,false] (R))):Td)=Th.ext (Dk.flat (FL.rw 178 [false,false,false,false] (Rn))),Value.int IntKind.i64 (IntKind.i64.wrap ((↑k:Int)+(1:Int)))=Value.int IntKind.i64 (↑(k+(1:Nat)):Int)],by kernel_rfl,(by refine mcons ?_ (mcons ?_ (mcons ?_ (mcons ?_ (mcons ?_ (mcons ?_ (mcons ?_ (mcons ?_ (mcons ?_ (mcons ?_ (mcons ?_ (mcons ?_ (mcons ?_ (mcons ?_ (mcons ?_ (mcons ?_ (mcons ?_ (mcons ?_ (mcons ?_ (mcons ?_ mnil)))))))))))))))))))<;>first|rfl|exact h0|exact h1|exact h2|exact h3|exact h4|exact h5|exact h6|exact h7|exact h8|exact h9|exact h10|exact h11|exact h12|exact h13|exact h14|exact h15|exact h16|exact h17|exact h18|trivial|(exact congrArg (fun x=>(Th.ext (Dk.flat (FL.rw 72 [false,false,false] x)):Td)) h15)|(exact congrArg (fun x=>(Th.ext (Dk.flat (FL.rw 176 [false,false,false] x)):Td)) h16)|(exact congrArg (fun x=>(Th.ext (Dk.flat (FL.rw 178 [false,false,false,false] x)):Td)) h18)|(exact congrArg (fun x=>(Th.ext (Dk.mp x):Td)) h17)|(exact congrArg (Value.int .i64) h2))⟩
theorem rpl_k1n (l:List RcDo) (Y Yn:List Rw) (Z Zn:List ((Int×Int)×Int)) (R Rn:List Rw) (k:Nat) (f:Nat→Value) (h0:(decide ((k:Int)<(l.length:Int))&&decide ((k:Int)<60))=true) (h1:0≤(k:Int)∧(k:Int).toNat<l.length) (h2:IntKind.i64.wrap ((k:Int)+1)=((k+1:Nat):Int)) (h3:((dK l k).kind==0)=false) (h4:((dK l k).kind==1)=true) (h5:hsE Y (dK l k).a (dK l k).b (dK l k).c=false) (h6:(!qdE Y (dK l k).a (dK l k).b (dK l k).c==11)=false) (h7:Y.length≤9000) (h8:Y.length≤10000) (h9:Y.length≤100000) (h10:List.map nr3 Y=Y) (h11:R.length≤10000) (h12:R.length≤100000) (h13:(Y.filter fun r=>!hitD (dK l k).a (dK l k).b (dK l k).c r)=Y) (h14:(Y.filter fun r=>!hitD (dK l k).a (dK l k).b (dK l k).c r).length≤10000) (h15:(Y.filter fun r=>!hitD (dK l k).a (dK l k).b (dK l k).c r)=Yn) (h16:Y=Yn) (h17:Z=Zn) (h18:R=Rn):∃ qs,alN Id' 7 [(7,.c (.one (.v (.int .i64 ((k+1:Nat):Int)))))] (m6 l Yn Yn Zn Rn) ((symC (sdRP Try.prog) [] 169 (hdC (loopsC (bodyOf Try.f6)) 0) ⟨[(7,.c (.one (.v (.int .i64 (k:Int)))))]++anyB' (writesC (hdC (loopsC (bodyOf Try.f6)) 0)) ([(0,.c (.one (.obj 0))),(3,.c (.one (.ptr 1 0))),(4,.c (.one (.ptr 3 0))),(5,.c (.one (.ptr 5 0))),(6,.c (.one (.ptr 6 0)))]++tabV f 169),(m6 l Y Y Z R),0⟩).al [true,false,true,false,false,false])=some qs∧∀ q∈qs,q:=
 ⟨[(decide ((↑k:Int)<(↑l.length:Int))&&decide ((↑k:Int)<(60:Int)))=true,(0:Int)≤(↑k:Int)∧(↑k:Int).toNat<l.length,((dK l k).kind==(0:Int))=false,((dK l k).kind==(1:Int))=true,Y.length≤(100000:Nat),hsE Y (dK l k).a (dK l k).b (dK l k).c=false,Y.length≤(100000:Nat),List.map nr3 Y=Y,(!qdE Y (dK l k).a (dK l k).b (dK l k).c==(11:Int))=false,(Y.filter fun r=>!hitD (dK l k).a (dK l k).b (dK l k).c r)=Y,(List.filter (fun r=>!hitD (dK l k).a (dK l k).b (dK l k).c r) Y).length≤(10000:Nat),(!qdE Y (dK l k).a (dK l k).b (dK l k).c==(11:Int))=false,false=false,(Th.ext (Dk.shr 5 l.length (rcEl l)):Td)=Th.ext (Dk.shr 5 l.length (rcEl l)),(Th.ext (Dk.mp Z):Td)=Th.ext (Dk.mp Zn),(Th.ext (Dk.flat (FL.rw 72 [false,false,false] (Y.filter fun r=>!hitD (dK l k).a (dK l k).b (dK l k).c r))):Td)=Th.ext (Dk.flat (FL.rw 72 [false,false,false] (Yn))),(Th.ext (Dk.flat (FL.rw 176 [false,false,false] (Y))):Td)=Th.ext (Dk.flat (FL.rw 176 [false,false,false] (Yn))),(Th.ext (Dk.flat (FL.rw 178 [false,false,false,false] (R))):Td)=Th.ext (Dk.flat (FL.rw 178 [false,false,false,false] (Rn))),Value.int IntKind.i64 (IntKind.i64.wrap ((↑k:Int)+(1:Int)))=Value.int IntKind.i64 (↑(k+(1:Nat)):Int)],by kernel_rfl,(by refine mcons ?_ (mcons ?_ (mcons ?_ (mcons ?_ (mcons ?_ (mcons ?_ (mcons ?_ (mcons ?_ (mcons ?_ (mcons ?_ (mcons ?_ (mcons ?_ (mcons ?_ (mcons ?_ (mcons ?_ (mcons ?_ (mcons ?_ (mcons ?_ (mcons ?_ mnil))))))))))))))))))<;>first|rfl|exact h0|exact h1|exact h2|exact h3|exact h4|exact h5|exact h6|exact h7|exact h8|exact h9|exact h10|exact h11|exact h12|exact h13|exact h14|exact h15|exact h16|exact h17|exact h18|trivial|(exact congrArg (fun x=>(Th.ext (Dk.flat (FL.rw 72 [false,false,false] x)):Td)) h15)|(exact congrArg (fun x=>(Th.ext (Dk.flat (FL.rw 176 [false,false,false] x)):Td)) h16)|(exact congrArg (fun x=>(Th.ext (Dk.flat (FL.rw 178 [false,false,false,false] x)):Td)) h18)|(exact congrArg (fun x=>(Th.ext (Dk.mp x):Td)) h17)|(exact congrArg (Value.int .i64) h2))⟩
theorem rpl_k2 (l:List RcDo) (Y Yn:List Rw) (Z Zn:List ((Int×Int)×Int)) (R Rn:List Rw) (k:Nat) (f:Nat→Value) (h0:(decide ((k:Int)<(l.length:Int))&&decide ((k:Int)<60))=true) (h1:0≤(k:Int)∧(k:Int).toNat<l.length) (h2:IntKind.i64.wrap ((k:Int)+1)=((k+1:Nat):Int)) (h3:((dK l k).kind==0)=false) (h4:((dK l k).kind==1)=false) (h5:((dK l k).kind==2)=true) (h6:decide ((dK l k).c≥0)=true) (h7:(!IntKind.i64.wrap ((Y.length:Int) - ((Y.filter fun r=>!hitG (dK l k).c r).length:Int))==IntKind.i64.wrap ((Y.length:Int) - ((gaR (drP (dK l k).c true (dK l k).a (dK l k).b) Y Y.length).length:Int)))=false) (h8:Y.length≤9000) (h9:Y.length≤10000) (h10:Y.length≤100000) (h11:List.map nr3 Y=Y) (h12:R.length≤10000) (h13:R.length≤100000) (h14:(Y.filter fun r=>!hitG (dK l k).c r)=gaR (drP (dK l k).c true (dK l k).a (dK l k).b) Y Y.length) (h15:(Y.filter fun r=>!hitG (dK l k).c r).length≤10000) (h16:(Y.filter fun r=>!hitG (dK l k).c r)=Yn) (h17:gaR (drP (dK l k).c true (dK l k).a (dK l k).b) Y Y.length=Yn) (h18:Z=Zn) (h19:R=Rn):∃ qs,alN Id' 7 [(7,.c (.one (.v (.int .i64 ((k+1:Nat):Int)))))] (m6 l Yn Yn Zn Rn) ((symC (sdRP Try.prog) [] 169 (hdC (loopsC (bodyOf Try.f6)) 0) ⟨[(7,.c (.one (.v (.int .i64 (k:Int)))))]++anyB' (writesC (hdC (loopsC (bodyOf Try.f6)) 0)) ([(0,.c (.one (.obj 0))),(3,.c (.one (.ptr 1 0))),(4,.c (.one (.ptr 3 0))),(5,.c (.one (.ptr 5 0))),(6,.c (.one (.ptr 6 0)))]++tabV f 169),(m6 l Y Y Z R),0⟩).al [true,false,false,true,true,false,false])=some qs∧∀ q∈qs,q:=
 ⟨[(decide ((↑k:Int)<(↑l.length:Int))&&decide ((↑k:Int)<(60:Int)))=true,(0:Int)≤(↑k:Int)∧(↑k:Int).toNat<l.length,((dK l k).kind==(0:Int))=false,((dK l k).kind==(1:Int))=false,((dK l k).kind==(2:Int))=true,decide ((dK l k).c≥(0:Int))=true,Y.length≤(10000:Nat),Y.length≤(100000:Nat),List.map nr3 Y=Y,(!IntKind.i64.wrap ((↑Y.length:Int) - (↑(List.filter (fun r=>!hitG (dK l k).c r) Y).length:Int))==IntKind.i64.wrap ((↑Y.length:Int) - (↑(gaR (drP (dK l k).c true (dK l k).a (dK l k).b) Y Y.length).length:Int)))=false,(Y.filter fun r=>!hitG (dK l k).c r)=gaR (drP (dK l k).c true (dK l k).a (dK l k).b) Y Y.length,(List.filter (fun r=>!hitG (dK l k).c r) Y).length≤(10000:Nat),(!IntKind.i64.wrap ((↑Y.length:Int) - (↑(List.filter (fun r=>!hitG (dK l k).c r) Y).length:Int))==IntKind.i64.wrap ((↑Y.length:Int) - (↑(gaR (drP (dK l k).c true (dK l k).a (dK l k).b) Y Y.length).length:Int)))=false,false=false,(Th.ext (Dk.shr 5 l.length (rcEl l)):Td)=Th.ext (Dk.shr 5 l.length (rcEl l)),(Th.ext (Dk.mp Z):Td)=Th.ext (Dk.mp Zn),(Th.ext (Dk.flat (FL.rw 72 [false,false,false] (Y.filter fun r=>!hitG (dK l k).c r))):Td)=Th.ext (Dk.flat (FL.rw 72 [false,false,false] (Yn))),(Th.ext (Dk.flat (FL.rw 176 [false,false,false] (gaR (drP (dK l k).c true (dK l k).a (dK l k).b) Y Y.length))):Td)=Th.ext (Dk.flat (FL.rw 176 [false,false,false] (Yn))),(Th.ext (Dk.flat (FL.rw 178 [false,false,false,false] (R))):Td)=Th.ext (Dk.flat (FL.rw 178 [false,false,false,false] (Rn))),Value.int IntKind.i64 (IntKind.i64.wrap ((↑k:Int)+(1:Int)))=Value.int IntKind.i64 (↑(k+(1:Nat)):Int)],by kernel_rfl,(by refine mcons ?_ (mcons ?_ (mcons ?_ (mcons ?_ (mcons ?_ (mcons ?_ (mcons ?_ (mcons ?_ (mcons ?_ (mcons ?_ (mcons ?_ (mcons ?_ (mcons ?_ (mcons ?_ (mcons ?_ (mcons ?_ (mcons ?_ (mcons ?_ (mcons ?_ (mcons ?_ mnil)))))))))))))))))))<;>first|rfl|exact h0|exact h1|exact h2|exact h3|exact h4|exact h5|exact h6|exact h7|exact h8|exact h9|exact h10|exact h11|exact h12|exact h13|exact h14|exact h15|exact h16|exact h17|exact h18|exact h19|trivial|(exact congrArg (fun x=>(Th.ext (Dk.flat (FL.rw 72 [false,false,false] x)):Td)) h16)|(exact congrArg (fun x=>(Th.ext (Dk.flat (FL.rw 176 [false,false,false] x)):Td)) h17)|(exact congrArg (fun x=>(Th.ext (Dk.flat (FL.rw 178 [false,false,false,false] x)):Td)) h19)|(exact congrArg (fun x=>(Th.ext (Dk.mp x):Td)) h18)|(exact congrArg (Value.int .i64) h2))⟩
theorem rpl_k2n (l:List RcDo) (Y Yn:List Rw) (Z Zn:List ((Int×Int)×Int)) (R Rn:List Rw) (k:Nat) (f:Nat→Value) (h0:(decide ((k:Int)<(l.length:Int))&&decide ((k:Int)<60))=true) (h1:0≤(k:Int)∧(k:Int).toNat<l.length) (h2:IntKind.i64.wrap ((k:Int)+1)=((k+1:Nat):Int)) (h3:((dK l k).kind==0)=false) (h4:((dK l k).kind==1)=false) (h5:((dK l k).kind==2)=true) (h6:decide ((dK l k).c≥0)=false) (h7:(!IntKind.i64.wrap ((Y.length:Int) - ((Y.filter fun r=>!hitG (dK l k).c r).length:Int))==0)=false) (h8:Y.length≤9000) (h9:Y.length≤10000) (h10:Y.length≤100000) (h11:List.map nr3 Y=Y) (h12:R.length≤10000) (h13:R.length≤100000) (h14:(Y.filter fun r=>!hitG (dK l k).c r)=Y) (h15:(Y.filter fun r=>!hitG (dK l k).c r).length≤10000) (h16:(Y.filter fun r=>!hitG (dK l k).c r)=Yn) (h17:Y=Yn) (h18:Z=Zn) (h19:R=Rn):∃ qs,alN Id' 7 [(7,.c (.one (.v (.int .i64 ((k+1:Nat):Int)))))] (m6 l Yn Yn Zn Rn) ((symC (sdRP Try.prog) [] 169 (hdC (loopsC (bodyOf Try.f6)) 0) ⟨[(7,.c (.one (.v (.int .i64 (k:Int)))))]++anyB' (writesC (hdC (loopsC (bodyOf Try.f6)) 0)) ([(0,.c (.one (.obj 0))),(3,.c (.one (.ptr 1 0))),(4,.c (.one (.ptr 3 0))),(5,.c (.one (.ptr 5 0))),(6,.c (.one (.ptr 6 0)))]++tabV f 169),(m6 l Y Y Z R),0⟩).al [true,false,false,true,false,false,false])=some qs∧∀ q∈qs,q:=
 ⟨[(decide ((↑k:Int)<(↑l.length:Int))&&decide ((↑k:Int)<(60:Int)))=true,(0:Int)≤(↑k:Int)∧(↑k:Int).toNat<l.length,((dK l k).kind==(0:Int))=false,((dK l k).kind==(1:Int))=false,((dK l k).kind==(2:Int))=true,decide ((dK l k).c≥(0:Int))=false,Y.length≤(100000:Nat),List.map nr3 Y=Y,(!IntKind.i64.wrap ((↑Y.length:Int) - (↑(List.filter (fun r=>!hitG (dK l k).c r) Y).length:Int))==(0:Int))=false,(Y.filter fun r=>!hitG (dK l k).c r)=Y,(List.filter (fun r=>!hitG (dK l k).c r) Y).length≤(10000:Nat),(!IntKind.i64.wrap ((↑Y.length:Int) - (↑(List.filter (fun r=>!hitG (dK l k).c r) Y).length:Int))==(0:Int))=false,false=false,(Th.ext (Dk.shr 5 l.length (rcEl l)):Td)=Th.ext (Dk.shr 5 l.length (rcEl l)),(Th.ext (Dk.mp Z):Td)=Th.ext (Dk.mp Zn),(Th.ext (Dk.flat (FL.rw 72 [false,false,false] (Y.filter fun r=>!hitG (dK l k).c r))):Td)=Th.ext (Dk.flat (FL.rw 72 [false,false,false] (Yn))),(Th.ext (Dk.flat (FL.rw 176 [false,false,false] (Y))):Td)=Th.ext (Dk.flat (FL.rw 176 [false,false,false] (Yn))),(Th.ext (Dk.flat (FL.rw 178 [false,false,false,false] (R))):Td)=Th.ext (Dk.flat (FL.rw 178 [false,false,false,false] (Rn))),Value.int IntKind.i64 (IntKind.i64.wrap ((↑k:Int)+(1:Int)))=Value.int IntKind.i64 (↑(k+(1:Nat)):Int)],by kernel_rfl,(by refine mcons ?_ (mcons ?_ (mcons ?_ (mcons ?_ (mcons ?_ (mcons ?_ (mcons ?_ (mcons ?_ (mcons ?_ (mcons ?_ (mcons ?_ (mcons ?_ (mcons ?_ (mcons ?_ (mcons ?_ (mcons ?_ (mcons ?_ (mcons ?_ (mcons ?_ mnil))))))))))))))))))<;>first|rfl|exact h0|exact h1|exact h2|exact h3|exact h4|exact h5|exact h6|exact h7|exact h8|exact h9|exact h10|exact h11|exact h12|exact h13|exact h14|exact h15|exact h16|exact h17|exact h18|exact h19|trivial|(exact congrArg (fun x=>(Th.ext (Dk.flat (FL.rw 72 [false,false,false] x)):Td)) h16)|(exact congrArg (fun x=>(Th.ext (Dk.flat (FL.rw 176 [false,false,false] x)):Td)) h17)|(exact congrArg (fun x=>(Th.ext (Dk.flat (FL.rw 178 [false,false,false,false] x)):Td)) h19)|(exact congrArg (fun x=>(Th.ext (Dk.mp x):Td)) h18)|(exact congrArg (Value.int .i64) h2))⟩
theorem rpl_k3 (l:List RcDo) (Y Yn:List Rw) (Z Zn:List ((Int×Int)×Int)) (R Rn:List Rw) (k:Nat) (f:Nat→Value) (h0:(decide ((k:Int)<(l.length:Int))&&decide ((k:Int)<60))=true) (h1:0≤(k:Int)∧(k:Int).toNat<l.length) (h2:IntKind.i64.wrap ((k:Int)+1)=((k+1:Nat):Int)) (h3:((dK l k).kind==0)=false) (h4:((dK l k).kind==1)=false) (h5:((dK l k).kind==2)=false) (h6:((dK l k).kind==3)=true) (h7:(!IntKind.i64.wrap ((Y.length:Int) - ((Y.filter fun r=>!hitC (dK l k).a (dK l k).b r).length:Int))==IntKind.i64.wrap ((Y.length:Int) - ((gaR (drP (-1) false (dK l k).a (dK l k).b) Y Y.length).length:Int)))=false) (h8:Y.length≤9000) (h9:Y.length≤10000) (h10:Y.length≤100000) (h11:List.map nr3 Y=Y) (h12:R.length≤10000) (h13:R.length≤100000) (h14:(Y.filter fun r=>!hitC (dK l k).a (dK l k).b r)=gaR (drP (-1) false (dK l k).a (dK l k).b) Y Y.length) (h15:(Y.filter fun r=>!hitC (dK l k).a (dK l k).b r).length≤10000) (h16:(Y.filter fun r=>!hitC (dK l k).a (dK l k).b r)=Yn) (h17:gaR (drP (-1) false (dK l k).a (dK l k).b) Y Y.length=Yn) (h18:Z=Zn) (h19:R=Rn):∃ qs,alN Id' 7 [(7,.c (.one (.v (.int .i64 ((k+1:Nat):Int)))))] (m6 l Yn Yn Zn Rn) ((symC (sdRP Try.prog) [] 169 (hdC (loopsC (bodyOf Try.f6)) 0) ⟨[(7,.c (.one (.v (.int .i64 (k:Int)))))]++anyB' (writesC (hdC (loopsC (bodyOf Try.f6)) 0)) ([(0,.c (.one (.obj 0))),(3,.c (.one (.ptr 1 0))),(4,.c (.one (.ptr 3 0))),(5,.c (.one (.ptr 5 0))),(6,.c (.one (.ptr 6 0)))]++tabV f 169),(m6 l Y Y Z R),0⟩).al [true,false,false,false,true,false,false])=some qs∧∀ q∈qs,q:=
 ⟨[(decide ((↑k:Int)<(↑l.length:Int))&&decide ((↑k:Int)<(60:Int)))=true,(0:Int)≤(↑k:Int)∧(↑k:Int).toNat<l.length,((dK l k).kind==(0:Int))=false,((dK l k).kind==(1:Int))=false,((dK l k).kind==(2:Int))=false,((dK l k).kind==(3:Int))=true,Y.length≤(10000:Nat),Y.length≤(100000:Nat),List.map nr3 Y=Y,(!IntKind.i64.wrap ((↑Y.length:Int) - (↑(List.filter (fun r=>!hitC (dK l k).a (dK l k).b r) Y).length:Int))==IntKind.i64.wrap ((↑Y.length:Int) - (↑(gaR (drP (-1:Int) false (dK l k).a (dK l k).b) Y Y.length).length:Int)))=false,(Y.filter fun r=>!hitC (dK l k).a (dK l k).b r)=gaR (drP (-1) false (dK l k).a (dK l k).b) Y Y.length,(List.filter (fun r=>!hitC (dK l k).a (dK l k).b r) Y).length≤(10000:Nat),(!IntKind.i64.wrap ((↑Y.length:Int) - (↑(List.filter (fun r=>!hitC (dK l k).a (dK l k).b r) Y).length:Int))==IntKind.i64.wrap ((↑Y.length:Int) - (↑(gaR (drP (-1:Int) false (dK l k).a (dK l k).b) Y Y.length).length:Int)))=false,false=false,(Th.ext (Dk.shr 5 l.length (rcEl l)):Td)=Th.ext (Dk.shr 5 l.length (rcEl l)),(Th.ext (Dk.mp Z):Td)=Th.ext (Dk.mp Zn),(Th.ext (Dk.flat (FL.rw 72 [false,false,false] (Y.filter fun r=>!hitC (dK l k).a (dK l k).b r))):Td)=Th.ext (Dk.flat (FL.rw 72 [false,false,false] (Yn))),(Th.ext (Dk.flat (FL.rw 176 [false,false,false] (gaR (drP (-1) false (dK l k).a (dK l k).b) Y Y.length))):Td)=Th.ext (Dk.flat (FL.rw 176 [false,false,false] (Yn))),(Th.ext (Dk.flat (FL.rw 178 [false,false,false,false] (R))):Td)=Th.ext (Dk.flat (FL.rw 178 [false,false,false,false] (Rn))),Value.int IntKind.i64 (IntKind.i64.wrap ((↑k:Int)+(1:Int)))=Value.int IntKind.i64 (↑(k+(1:Nat)):Int)],by kernel_rfl,(by refine mcons ?_ (mcons ?_ (mcons ?_ (mcons ?_ (mcons ?_ (mcons ?_ (mcons ?_ (mcons ?_ (mcons ?_ (mcons ?_ (mcons ?_ (mcons ?_ (mcons ?_ (mcons ?_ (mcons ?_ (mcons ?_ (mcons ?_ (mcons ?_ (mcons ?_ (mcons ?_ mnil)))))))))))))))))))<;>first|rfl|exact h0|exact h1|exact h2|exact h3|exact h4|exact h5|exact h6|exact h7|exact h8|exact h9|exact h10|exact h11|exact h12|exact h13|exact h14|exact h15|exact h16|exact h17|exact h18|exact h19|trivial|(exact congrArg (fun x=>(Th.ext (Dk.flat (FL.rw 72 [false,false,false] x)):Td)) h16)|(exact congrArg (fun x=>(Th.ext (Dk.flat (FL.rw 176 [false,false,false] x)):Td)) h17)|(exact congrArg (fun x=>(Th.ext (Dk.flat (FL.rw 178 [false,false,false,false] x)):Td)) h19)|(exact congrArg (fun x=>(Th.ext (Dk.mp x):Td)) h18)|(exact congrArg (Value.int .i64) h2))⟩
theorem rpl_k4 (l:List RcDo) (Y Yn:List Rw) (Z Zn:List ((Int×Int)×Int)) (R Rn:List Rw) (k:Nat) (f:Nat→Value) (h0:(decide ((k:Int)<(l.length:Int))&&decide ((k:Int)<60))=true) (h1:0≤(k:Int)∧(k:Int).toNat<l.length) (h2:IntKind.i64.wrap ((k:Int)+1)=((k+1:Nat):Int)) (h3:((dK l k).kind==0)=false) (h4:((dK l k).kind==1)=false) (h5:((dK l k).kind==2)=false) (h6:((dK l k).kind==3)=false) (h7:((dK l k).kind==4)=true) (h8:Y.length≤9000) (h9:Y.length≤10000) (h10:Y.length≤100000) (h11:List.map nr3 Y=Y) (h12:R.length≤10000) (h13:R.length≤100000) (h14:(Y)=Y) (h15:(Y).length≤10000) (h16:(Y)=Yn) (h17:Y=Yn) (h18:grT Z (dK l k).a (dK l k).b (dK l k).c (dK l k).m=Zn) (h19:rgT R (dK l k).a (dK l k).b (dK l k).c (dK l k).m=Rn):∃ qs,alN Id' 7 [(7,.c (.one (.v (.int .i64 ((k+1:Nat):Int)))))] (m6 l Yn Yn Zn Rn) ((symC (sdRP Try.prog) [] 169 (hdC (loopsC (bodyOf Try.f6)) 0) ⟨[(7,.c (.one (.v (.int .i64 (k:Int)))))]++anyB' (writesC (hdC (loopsC (bodyOf Try.f6)) 0)) ([(0,.c (.one (.obj 0))),(3,.c (.one (.ptr 1 0))),(4,.c (.one (.ptr 3 0))),(5,.c (.one (.ptr 5 0))),(6,.c (.one (.ptr 6 0)))]++tabV f 169),(m6 l Y Y Z R),0⟩).al [true,false,false,false,false,true,false])=some qs∧∀ q∈qs,q:=
 ⟨[(decide ((↑k:Int)<(↑l.length:Int))&&decide ((↑k:Int)<(60:Int)))=true,(0:Int)≤(↑k:Int)∧(↑k:Int).toNat<l.length,((dK l k).kind==(0:Int))=false,((dK l k).kind==(1:Int))=false,((dK l k).kind==(2:Int))=false,((dK l k).kind==(3:Int))=false,((dK l k).kind==(4:Int))=true,R.length≤(10000:Nat),Y=Y,Y.length≤(10000:Nat),false=false,(Th.ext (Dk.shr 5 l.length (rcEl l)):Td)=Th.ext (Dk.shr 5 l.length (rcEl l)),(Th.ext (Dk.mp (grT Z (dK l k).a (dK l k).b (dK l k).c (dK l k).m)):Td)=Th.ext (Dk.mp Zn),(Th.ext (Dk.flat (FL.rw 72 [false,false,false] (Y))):Td)=Th.ext (Dk.flat (FL.rw 72 [false,false,false] (Yn))),(Th.ext (Dk.flat (FL.rw 176 [false,false,false] (Y))):Td)=Th.ext (Dk.flat (FL.rw 176 [false,false,false] (Yn))),(Th.ext (Dk.flat (FL.rw 178 [false,false,false,false] (rgT R (dK l k).a (dK l k).b (dK l k).c (dK l k).m))):Td)=Th.ext (Dk.flat (FL.rw 178 [false,false,false,false] (Rn))),Value.int IntKind.i64 (IntKind.i64.wrap ((↑k:Int)+(1:Int)))=Value.int IntKind.i64 (↑(k+(1:Nat)):Int)],by kernel_rfl,(by refine mcons ?_ (mcons ?_ (mcons ?_ (mcons ?_ (mcons ?_ (mcons ?_ (mcons ?_ (mcons ?_ (mcons ?_ (mcons ?_ (mcons ?_ (mcons ?_ (mcons ?_ (mcons ?_ (mcons ?_ (mcons ?_ (mcons ?_ mnil))))))))))))))))<;>first|rfl|exact h0|exact h1|exact h2|exact h3|exact h4|exact h5|exact h6|exact h7|exact h8|exact h9|exact h10|exact h11|exact h12|exact h13|exact h14|exact h15|exact h16|exact h17|exact h18|exact h19|trivial|(exact congrArg (fun x=>(Th.ext (Dk.flat (FL.rw 72 [false,false,false] x)):Td)) h16)|(exact congrArg (fun x=>(Th.ext (Dk.flat (FL.rw 176 [false,false,false] x)):Td)) h17)|(exact congrArg (fun x=>(Th.ext (Dk.flat (FL.rw 178 [false,false,false,false] x)):Td)) h19)|(exact congrArg (fun x=>(Th.ext (Dk.mp x):Td)) h18)|(exact congrArg (Value.int .i64) h2))⟩
theorem rpl_k5 (l:List RcDo) (Y Yn:List Rw) (Z Zn:List ((Int×Int)×Int)) (R Rn:List Rw) (k:Nat) (f:Nat→Value) (h0:(decide ((k:Int)<(l.length:Int))&&decide ((k:Int)<60))=true) (h1:0≤(k:Int)∧(k:Int).toNat<l.length) (h2:IntKind.i64.wrap ((k:Int)+1)=((k+1:Nat):Int)) (h3:((dK l k).kind==0)=false) (h4:((dK l k).kind==1)=false) (h5:((dK l k).kind==2)=false) (h6:((dK l k).kind==3)=false) (h7:((dK l k).kind==4)=false) (h8:((dK l k).kind==5)=true) (h9:Y.length≤9000) (h10:Y.length≤10000) (h11:Y.length≤100000) (h12:List.map nr3 Y=Y) (h13:R.length≤10000) (h14:R.length≤100000) (h15:(Y)=Y) (h16:(Y).length≤10000) (h17:(Y)=Yn) (h18:Y=Yn) (h19:drT Z (dK l k).a (dK l k).b (dK l k).c=Zn) (h20:rdT R (dK l k).a (dK l k).b (dK l k).c=Rn):∃ qs,alN Id' 7 [(7,.c (.one (.v (.int .i64 ((k+1:Nat):Int)))))] (m6 l Yn Yn Zn Rn) ((symC (sdRP Try.prog) [] 169 (hdC (loopsC (bodyOf Try.f6)) 0) ⟨[(7,.c (.one (.v (.int .i64 (k:Int)))))]++anyB' (writesC (hdC (loopsC (bodyOf Try.f6)) 0)) ([(0,.c (.one (.obj 0))),(3,.c (.one (.ptr 1 0))),(4,.c (.one (.ptr 3 0))),(5,.c (.one (.ptr 5 0))),(6,.c (.one (.ptr 6 0)))]++tabV f 169),(m6 l Y Y Z R),0⟩).al [true,false,false,false,false,false,true,false])=some qs∧∀ q∈qs,q:=
 ⟨[(decide ((↑k:Int)<(↑l.length:Int))&&decide ((↑k:Int)<(60:Int)))=true,(0:Int)≤(↑k:Int)∧(↑k:Int).toNat<l.length,((dK l k).kind==(0:Int))=false,((dK l k).kind==(1:Int))=false,((dK l k).kind==(2:Int))=false,((dK l k).kind==(3:Int))=false,((dK l k).kind==(4:Int))=false,((dK l k).kind==(5:Int))=true,R.length≤(10000:Nat),Y=Y,Y.length≤(10000:Nat),false=false,(Th.ext (Dk.shr 5 l.length (rcEl l)):Td)=Th.ext (Dk.shr 5 l.length (rcEl l)),(Th.ext (Dk.mp (drT Z (dK l k).a (dK l k).b (dK l k).c)):Td)=Th.ext (Dk.mp Zn),(Th.ext (Dk.flat (FL.rw 72 [false,false,false] (Y))):Td)=Th.ext (Dk.flat (FL.rw 72 [false,false,false] (Yn))),(Th.ext (Dk.flat (FL.rw 176 [false,false,false] (Y))):Td)=Th.ext (Dk.flat (FL.rw 176 [false,false,false] (Yn))),(Th.ext (Dk.flat (FL.rw 178 [false,false,false,false] (rdT R (dK l k).a (dK l k).b (dK l k).c))):Td)=Th.ext (Dk.flat (FL.rw 178 [false,false,false,false] (Rn))),Value.int IntKind.i64 (IntKind.i64.wrap ((↑k:Int)+(1:Int)))=Value.int IntKind.i64 (↑(k+(1:Nat)):Int)],by kernel_rfl,(by refine mcons ?_ (mcons ?_ (mcons ?_ (mcons ?_ (mcons ?_ (mcons ?_ (mcons ?_ (mcons ?_ (mcons ?_ (mcons ?_ (mcons ?_ (mcons ?_ (mcons ?_ (mcons ?_ (mcons ?_ (mcons ?_ (mcons ?_ (mcons ?_ mnil)))))))))))))))))<;>first|rfl|exact h0|exact h1|exact h2|exact h3|exact h4|exact h5|exact h6|exact h7|exact h8|exact h9|exact h10|exact h11|exact h12|exact h13|exact h14|exact h15|exact h16|exact h17|exact h18|exact h19|exact h20|trivial|(exact congrArg (fun x=>(Th.ext (Dk.flat (FL.rw 72 [false,false,false] x)):Td)) h17)|(exact congrArg (fun x=>(Th.ext (Dk.flat (FL.rw 176 [false,false,false] x)):Td)) h18)|(exact congrArg (fun x=>(Th.ext (Dk.flat (FL.rw 178 [false,false,false,false] x)):Td)) h20)|(exact congrArg (fun x=>(Th.ext (Dk.mp x):Td)) h19)|(exact congrArg (Value.int .i64) h2))⟩
theorem rpl_k6 (l:List RcDo) (Y Yn:List Rw) (Z Zn:List ((Int×Int)×Int)) (R Rn:List Rw) (k:Nat) (f:Nat→Value) (h0:(decide ((k:Int)<(l.length:Int))&&decide ((k:Int)<60))=true) (h1:0≤(k:Int)∧(k:Int).toNat<l.length) (h2:IntKind.i64.wrap ((k:Int)+1)=((k+1:Nat):Int)) (h3:((dK l k).kind==0)=false) (h4:((dK l k).kind==1)=false) (h5:((dK l k).kind==2)=false) (h6:((dK l k).kind==3)=false) (h7:((dK l k).kind==4)=false) (h8:((dK l k).kind==5)=false) (h9:((dK l k).kind==6)=true) (h10:(!IntKind.i64.wrap ((Y.length:Int) - ((Y.filter fun r=>!hitS Z r).length:Int))==IntKind.i64.wrap ((Y.length:Int) - ((gaR (seP R) Y Y.length).length:Int)))=false) (h11:Y.length≤9000) (h12:Y.length≤10000) (h13:Y.length≤100000) (h14:List.map nr3 Y=Y) (h15:R.length≤10000) (h16:R.length≤100000) (h17:(Y.filter fun r=>!hitS Z r)=gaR (seP R) Y Y.length) (h18:(Y.filter fun r=>!hitS Z r).length≤10000) (h19:(Y.filter fun r=>!hitS Z r)=Yn) (h20:gaR (seP R) Y Y.length=Yn) (h21:Z=Zn) (h22:R=Rn):∃ qs,alN Id' 7 [(7,.c (.one (.v (.int .i64 ((k+1:Nat):Int)))))] (m6 l Yn Yn Zn Rn) ((symC (sdRP Try.prog) [] 169 (hdC (loopsC (bodyOf Try.f6)) 0) ⟨[(7,.c (.one (.v (.int .i64 (k:Int)))))]++anyB' (writesC (hdC (loopsC (bodyOf Try.f6)) 0)) ([(0,.c (.one (.obj 0))),(3,.c (.one (.ptr 1 0))),(4,.c (.one (.ptr 3 0))),(5,.c (.one (.ptr 5 0))),(6,.c (.one (.ptr 6 0)))]++tabV f 169),(m6 l Y Y Z R),0⟩).al [true,false,false,false,false,false,false,true,false,false])=some qs∧∀ q∈qs,q:=
 ⟨[(decide ((↑k:Int)<(↑l.length:Int))&&decide ((↑k:Int)<(60:Int)))=true,(0:Int)≤(↑k:Int)∧(↑k:Int).toNat<l.length,((dK l k).kind==(0:Int))=false,((dK l k).kind==(1:Int))=false,((dK l k).kind==(2:Int))=false,((dK l k).kind==(3:Int))=false,((dK l k).kind==(4:Int))=false,((dK l k).kind==(5:Int))=false,((dK l k).kind==(6:Int))=true,Y.length≤(10000:Nat),R.length≤(100000:Nat),Y.length≤(100000:Nat),List.map nr3 Y=Y,(!IntKind.i64.wrap ((↑Y.length:Int) - (↑(List.filter (fun r=>!hitS Z r) Y).length:Int))==IntKind.i64.wrap ((↑Y.length:Int) - (↑(gaR (seP R) Y Y.length).length:Int)))=false,(Y.filter fun r=>!hitS Z r)=gaR (seP R) Y Y.length,(List.filter (fun r=>!hitS Z r) Y).length≤(10000:Nat),(!IntKind.i64.wrap ((↑Y.length:Int) - (↑(List.filter (fun r=>!hitS Z r) Y).length:Int))==IntKind.i64.wrap ((↑Y.length:Int) - (↑(gaR (seP R) Y Y.length).length:Int)))=false,false=false,(Th.ext (Dk.shr 5 l.length (rcEl l)):Td)=Th.ext (Dk.shr 5 l.length (rcEl l)),(Th.ext (Dk.mp Z):Td)=Th.ext (Dk.mp Zn),(Th.ext (Dk.flat (FL.rw 72 [false,false,false] (Y.filter fun r=>!hitS Z r))):Td)=Th.ext (Dk.flat (FL.rw 72 [false,false,false] (Yn))),(Th.ext (Dk.flat (FL.rw 176 [false,false,false] (gaR (seP R) Y Y.length))):Td)=Th.ext (Dk.flat (FL.rw 176 [false,false,false] (Yn))),(Th.ext (Dk.flat (FL.rw 178 [false,false,false,false] (R))):Td)=Th.ext (Dk.flat (FL.rw 178 [false,false,false,false] (Rn))),Value.int IntKind.i64 (IntKind.i64.wrap ((↑k:Int)+(1:Int)))=Value.int IntKind.i64 (↑(k+(1:Nat)):Int)],by kernel_rfl,(by refine mcons ?_ (mcons ?_ (mcons ?_ (mcons ?_ (mcons ?_ (mcons ?_ (mcons ?_ (mcons ?_ (mcons ?_ (mcons ?_ (mcons ?_ (mcons ?_ (mcons ?_ (mcons ?_ (mcons ?_ (mcons ?_ (mcons ?_ (mcons ?_ (mcons ?_ (mcons ?_ (mcons ?_ (mcons ?_ (mcons ?_ (mcons ?_ mnil)))))))))))))))))))))))<;>first|rfl|exact h0|exact h1|exact h2|exact h3|exact h4|exact h5|exact h6|exact h7|exact h8|exact h9|exact h10|exact h11|exact h12|exact h13|exact h14|exact h15|exact h16|exact h17|exact h18|exact h19|exact h20|exact h21|exact h22|trivial|(exact congrArg (fun x=>(Th.ext (Dk.flat (FL.rw 72 [false,false,false] x)):Td)) h19)|(exact congrArg (fun x=>(Th.ext (Dk.flat (FL.rw 176 [false,false,false] x)):Td)) h20)|(exact congrArg (fun x=>(Th.ext (Dk.flat (FL.rw 178 [false,false,false,false] x)):Td)) h22)|(exact congrArg (fun x=>(Th.ext (Dk.mp x):Td)) h21)|(exact congrArg (Value.int .i64) h2))⟩
theorem rpl_k7 (l:List RcDo) (Y Yn:List Rw) (Z Zn:List ((Int×Int)×Int)) (R Rn:List Rw) (k:Nat) (f:Nat→Value) (h0:(decide ((k:Int)<(l.length:Int))&&decide ((k:Int)<60))=true) (h1:0≤(k:Int)∧(k:Int).toNat<l.length) (h2:IntKind.i64.wrap ((k:Int)+1)=((k+1:Nat):Int)) (h3:((dK l k).kind==0)=false) (h4:((dK l k).kind==1)=false) (h5:((dK l k).kind==2)=false) (h6:((dK l k).kind==3)=false) (h7:((dK l k).kind==4)=false) (h8:((dK l k).kind==5)=false) (h9:((dK l k).kind==6)=false) (h10:(!(pnE Y Z (dK l k).a (dK l k).b (dK l k).c (dK l k).m).2==(rnE Y R (dK l k).a (dK l k).b (dK l k).c (dK l k).m).2)=false) (h11:Y.length≤9000) (h12:Y.length≤10000) (h13:Y.length≤100000) (h14:List.map nr3 Y=Y) (h15:R.length≤10000) (h16:R.length≤100000) (h17:((pnE Y Z (dK l k).a (dK l k).b (dK l k).c (dK l k).m).1)=(rnE Y R (dK l k).a (dK l k).b (dK l k).c (dK l k).m).1) (h18:((pnE Y Z (dK l k).a (dK l k).b (dK l k).c (dK l k).m).1).length≤10000) (h19:((pnE Y Z (dK l k).a (dK l k).b (dK l k).c (dK l k).m).1)=Yn) (h20:(rnE Y R (dK l k).a (dK l k).b (dK l k).c (dK l k).m).1=Yn) (h21:Z=Zn) (h22:R=Rn):∃ qs,alN Id' 7 [(7,.c (.one (.v (.int .i64 ((k+1:Nat):Int)))))] (m6 l Yn Yn Zn Rn) ((symC (sdRP Try.prog) [] 169 (hdC (loopsC (bodyOf Try.f6)) 0) ⟨[(7,.c (.one (.v (.int .i64 (k:Int)))))]++anyB' (writesC (hdC (loopsC (bodyOf Try.f6)) 0)) ([(0,.c (.one (.obj 0))),(3,.c (.one (.ptr 1 0))),(4,.c (.one (.ptr 3 0))),(5,.c (.one (.ptr 5 0))),(6,.c (.one (.ptr 6 0)))]++tabV f 169),(m6 l Y Y Z R),0⟩).al [true,false,false,false,false,false,false,false,false,false])=some qs∧∀ q∈qs,q:=
 ⟨[(decide ((↑k:Int)<(↑l.length:Int))&&decide ((↑k:Int)<(60:Int)))=true,(0:Int)≤(↑k:Int)∧(↑k:Int).toNat<l.length,((dK l k).kind==(0:Int))=false,((dK l k).kind==(1:Int))=false,((dK l k).kind==(2:Int))=false,((dK l k).kind==(3:Int))=false,((dK l k).kind==(4:Int))=false,((dK l k).kind==(5:Int))=false,((dK l k).kind==(6:Int))=false,Y.length≤(9000:Nat),R.length≤(100000:Nat),Y.length≤(9000:Nat),(!(pnE Y Z (dK l k).a (dK l k).b (dK l k).c (dK l k).m).snd==(rnE Y R (dK l k).a (dK l k).b (dK l k).c (dK l k).m).snd)=false,(pnE Y Z (dK l k).a (dK l k).b (dK l k).c (dK l k).m).1=(rnE Y R (dK l k).a (dK l k).b (dK l k).c (dK l k).m).1,(pnE Y Z (dK l k).a (dK l k).b (dK l k).c (dK l k).m).fst.length≤(10000:Nat),(!(pnE Y Z (dK l k).a (dK l k).b (dK l k).c (dK l k).m).snd==(rnE Y R (dK l k).a (dK l k).b (dK l k).c (dK l k).m).snd)=false,false=false,(Th.ext (Dk.shr 5 l.length (rcEl l)):Td)=Th.ext (Dk.shr 5 l.length (rcEl l)),(Th.ext (Dk.mp Z):Td)=Th.ext (Dk.mp Zn),(Th.ext (Dk.flat (FL.rw 72 [false,false,false] ((pnE Y Z (dK l k).a (dK l k).b (dK l k).c (dK l k).m).1))):Td)=Th.ext (Dk.flat (FL.rw 72 [false,false,false] (Yn))),(Th.ext (Dk.flat (FL.rw 176 [false,false,false] ((rnE Y R (dK l k).a (dK l k).b (dK l k).c (dK l k).m).1))):Td)=Th.ext (Dk.flat (FL.rw 176 [false,false,false] (Yn))),(Th.ext (Dk.flat (FL.rw 178 [false,false,false,false] (R))):Td)=Th.ext (Dk.flat (FL.rw 178 [false,false,false,false] (Rn))),Value.int IntKind.i64 (IntKind.i64.wrap ((↑k:Int)+(1:Int)))=Value.int IntKind.i64 (↑(k+(1:Nat)):Int)],by kernel_rfl,(by refine mcons ?_ (mcons ?_ (mcons ?_ (mcons ?_ (mcons ?_ (mcons ?_ (mcons ?_ (mcons ?_ (mcons ?_ (mcons ?_ (mcons ?_ (mcons ?_ (mcons ?_ (mcons ?_ (mcons ?_ (mcons ?_ (mcons ?_ (mcons ?_ (mcons ?_ (mcons ?_ (mcons ?_ (mcons ?_ (mcons ?_ mnil))))))))))))))))))))))<;>first|rfl|exact h0|exact h1|exact h2|exact h3|exact h4|exact h5|exact h6|exact h7|exact h8|exact h9|exact h10|exact h11|exact h12|exact h13|exact h14|exact h15|exact h16|exact h17|exact h18|exact h19|exact h20|exact h21|exact h22|trivial|(exact congrArg (fun x=>(Th.ext (Dk.flat (FL.rw 72 [false,false,false] x)):Td)) h19)|(exact congrArg (fun x=>(Th.ext (Dk.flat (FL.rw 176 [false,false,false] x)):Td)) h20)|(exact congrArg (fun x=>(Th.ext (Dk.flat (FL.rw 178 [false,false,false,false] x)):Td)) h22)|(exact congrArg (fun x=>(Th.ext (Dk.mp x):Td)) h21)|(exact congrArg (Value.int .i64) h2))⟩
theorem rpl_x (l:List RcDo) (Y Yn:List Rw) (Z Zn:List ((Int×Int)×Int)) (R Rn:List Rw) (k:Nat) (f:Nat→Value) (h0:(decide ((k:Int)<(l.length:Int))&&decide ((k:Int)<60))=false):∃ qs,alX Id' 7 0 [] [⟨.us (.ext (.shr 5 l.length (rcEl l))),false⟩,⟨.dead,true⟩,⟨.dead,true⟩,⟨.dead,true⟩,⟨.dead,true⟩,⟨.dead,true⟩,⟨.dead,true⟩] ((symC (sdRP Try.prog) [] 169 (hdC (loopsC (bodyOf Try.f6)) 0) ⟨[(7,.c (.one (.v (.int .i64 (k:Int)))))]++anyB' (writesC (hdC (loopsC (bodyOf Try.f6)) 0)) ([(0,.c (.one (.obj 0))),(3,.c (.one (.ptr 1 0))),(4,.c (.one (.ptr 3 0))),(5,.c (.one (.ptr 5 0))),(6,.c (.one (.ptr 6 0)))]++tabV f 169),(m6 l Y Y Z R),0⟩).al [false])=some qs∧∀ q∈qs,q:=
 ⟨[(decide ((↑k:Int)<(↑l.length:Int))&&decide ((↑k:Int)<(60:Int)))=false,(Th.ext (Dk.shr 5 l.length (rcEl l)):Td)=Th.ext (Dk.shr 5 l.length (rcEl l))],by kernel_rfl,(by refine mcons ?_ (mcons ?_ mnil)<;>first|rfl|exact h0|trivial)⟩
end Go.Proofs.Ytdenmoiaiemokaa
