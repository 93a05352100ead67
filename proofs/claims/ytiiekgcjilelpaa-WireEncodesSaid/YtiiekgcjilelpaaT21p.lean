/- J51 T21. -/
import Derived.Test.YtiiekgcjilelpaaJ50p
import Derived.Test.YtiiekgcjilelpaaJ3p
import Derived.Test.YtiiekgcjilelpaaJ2p
import Derived.Test.YtiiekgcjilelpaaF2p
open List renaming getElem?_eq_getElem → zaa, length_append → zae, getD_eq_getElem?_getD → zaf, mem_append_right → zag, mem_append_left → zah
open Nat renaming le_trans → zbl
set_option linter.unusedSimpArgs false
set_option linter.unusedVariables false
namespace Go.Proofs.Ytiiekgcjilelpaa
open Go.RowKit
def enB7 (s:List Bool) (R:List Rw):Nat→List Bool
 |0=>s
 |k+1=>enB7 s R k++ya2 ((R.getD k Rw.zero).ss.getD 0 ⟨#[]⟩).data.toList++fiB ((R.getD k Rw.zero).is.getD 0 0) ((R.getD k Rw.zero).is.getD 1 0)++yaf (IntKind.u64.wrap ((R.getD k Rw.zero).is.getD 2 0)).toNat 2
theorem yn2 (s:List Bool) (R:List Rw) (hz:∀ r∈R,(r.ss.getD 0 ⟨#[]⟩).size≤1000):∀ k,k≤R.length→(enB7 s R k).length≤s.length+k * 8055
 |0,_=>by simp [enB7]
 |k+1,h=>by
  have ih:=yn2 s R hz k (by omega)
  have hx:R.getD k Rw.zero=R[k]:=by rw [zaf,zaa (by omega)];rfl
  have h1:((R.getD k Rw.zero).ss.getD 0 ⟨#[]⟩).size≤1000:=by rw [hx];exact hz _ (List.getElem_mem (by omega))
  rw [enB7,zae,zae,zae,yhh,yg9,yae]
  omega
set_option maxRecDepth 100000 in
theorem we7_n (R:List Rw) (ty cl ss sq bo kd er f1 f2 d1 d2:Int) (nm ot:ByteArray) (mo pl:Int) (da:ByteArray) (ve:Int) (S Sn:List Bool) (k:Nat) (f:Nat→Value) (h0:decide ((k:Int)<(R.length:Int))=true) (h1:IntKind.i64.wrap ((k:Int)+1)=((k+1:Nat):Int)) (h2:0≤(k:Int)∧k<R.length) (h3:((R.getD k Rw.zero).ss.getD 0 ⟨#[]⟩).size≤1000) (h4:S.length≤900000) (h5:(S++ya2 ((R.getD k Rw.zero).ss.getD 0 ⟨#[]⟩).data.toList++fiB ((R.getD k Rw.zero).is.getD 0 0) ((R.getD k Rw.zero).is.getD 1 0)++yaf (IntKind.u64.wrap ((R.getD k Rw.zero).is.getD 2 0)).toNat 2)=Sn):∃ qs,alN Id' 25 [(6,.c (.one (.v (.int .i64 ((k+1:Nat):Int))))),(4,.c (.one (.obj 25)))] [⟨.us (.ext (.vw [true,false,false,false] R)),false⟩,⟨.blk [.v (.int .i64 ty),.v (.int .i64 cl),.v (.int .u64 ss),.v (.int .u64 sq),.v (.int .u64 bo),.v (.int .i64 kd),.v (.int .i64 er),.v (.int .i64 f1),.v (.int .i64 f2),.v (.int .i64 d1),.v (.int .i64 d2),.v (.string nm),.v (.string ot),.v (.int .i64 mo),.v (.int .i64 pl),.v (.string da),.v (.int .u64 ve),.obj 0],true⟩,⟨.dead,true⟩,⟨.dead,true⟩,⟨.dead,true⟩,⟨.dead,true⟩,⟨.dead,true⟩,⟨.dead,true⟩,⟨.dead,true⟩,⟨.dead,true⟩,⟨.dead,true⟩,⟨.dead,true⟩,⟨.dead,true⟩,⟨.dead,true⟩,⟨.dead,true⟩,⟨.dead,true⟩,⟨.dead,true⟩,⟨.dead,true⟩,⟨.dead,true⟩,⟨.dead,true⟩,⟨.dead,true⟩,⟨.dead,true⟩,⟨.dead,true⟩,⟨.us (.bts (yaf (IntKind.u64.wrap (R.length:Int)).toNat 5)),true⟩,⟨.dead,true⟩,⟨.us (.bts (Sn)),true⟩] ((symC (⟨Try.prog,[(142,ctrV C_mis yaj),(143,ctrV yc9 yaj),(144,ctrV yc8 yaj),(yci (hx:=yag):Nat×Fn2 Td),(ybz (hx:=yag):Nat×Fn2 Td),(yb0 (hx:=yag):Nat×Fn2 Td),(145,ctrF Id' C_rfi yaj)],[],dkHo,Id'.one,60⟩:Sy Td) [] 146 (hdC (ybe (yat Try.f35)) 0) ⟨[(6,.c (.one (.v (.int .i64 (k:Int))))),(4,.c (.one (.obj 25)))]++yb9 (yah (hdC (ybe (yat Try.f35)) 0)) ([(1,.c (.one (.ptr 1 0)))]++tabV f 146),[⟨.us (.ext (.vw [true,false,false,false] R)),false⟩,⟨.blk [.v (.int .i64 ty),.v (.int .i64 cl),.v (.int .u64 ss),.v (.int .u64 sq),.v (.int .u64 bo),.v (.int .i64 kd),.v (.int .i64 er),.v (.int .i64 f1),.v (.int .i64 f2),.v (.int .i64 d1),.v (.int .i64 d2),.v (.string nm),.v (.string ot),.v (.int .i64 mo),.v (.int .i64 pl),.v (.string da),.v (.int .u64 ve),.obj 0],true⟩,⟨.dead,true⟩,⟨.dead,true⟩,⟨.dead,true⟩,⟨.dead,true⟩,⟨.dead,true⟩,⟨.dead,true⟩,⟨.dead,true⟩,⟨.dead,true⟩,⟨.dead,true⟩,⟨.dead,true⟩,⟨.dead,true⟩,⟨.dead,true⟩,⟨.dead,true⟩,⟨.dead,true⟩,⟨.dead,true⟩,⟨.dead,true⟩,⟨.dead,true⟩,⟨.dead,true⟩,⟨.dead,true⟩,⟨.dead,true⟩,⟨.dead,true⟩,⟨.us (.bts (yaf (IntKind.u64.wrap (R.length:Int)).toNat 5)),true⟩,⟨.dead,true⟩,⟨.us (.bts (S)),true⟩],0⟩).al [true])=some qs∧∀ q∈qs,q:=
 ⟨[decide ((↑k:Int)<(↑R.length:Int))=true,(0:Int)≤(↑k:Int)∧k<R.length,S.length+(ya2 ((R.getD k Rw.zero).ss.getD (0:Nat) (ByteArray.mk #[])).data.toList).length≤(1000000:Nat),((R.getD k Rw.zero).ss.getD (0:Nat) (ByteArray.mk #[])).size≤(60000:Nat),(S++ya2 ((R.getD k Rw.zero).ss.getD (0:Nat) (ByteArray.mk #[])).data.toList).length+(fiB ((R.getD k Rw.zero).is.getD (0:Nat) (0:Int)) ((R.getD k Rw.zero).is.getD ((0:Nat)+(1:Nat)) (0:Int))).length≤(1000000:Nat),(S++ya2 ((R.getD k Rw.zero).ss.getD (0:Nat) (ByteArray.mk #[])).data.toList++fiB ((R.getD k Rw.zero).is.getD (0:Nat) (0:Int)) ((R.getD k Rw.zero).is.getD ((0:Nat)+(1:Nat)) (0:Int))).length+(yaf (IntKind.u64.wrap ((R.getD k Rw.zero).is.getD ((0:Nat)+(1:Nat)+(1:Nat)) (0:Int))).toNat 2).length≤(1000000:Nat),(0:Int)≤IntKind.u64.wrap ((R.getD k Rw.zero).is.getD ((0:Nat)+(1:Nat)+(1:Nat)) (0:Int))∧IntKind.u64.wrap ((R.getD k Rw.zero).is.getD ((0:Nat)+(1:Nat)+(1:Nat)) (0:Int))<(18446744073709551616:Int),(Th.ext (Dk.vw [true,false,false,false] R):Td)=Th.ext (Dk.vw [true,false,false,false] R),Value.int IntKind.i64 ty=Value.int IntKind.i64 ty,Value.int IntKind.i64 cl=Value.int IntKind.i64 cl,Value.int IntKind.u64 ss=Value.int IntKind.u64 ss,Value.int IntKind.u64 sq=Value.int IntKind.u64 sq,Value.int IntKind.u64 bo=Value.int IntKind.u64 bo,Value.int IntKind.i64 kd=Value.int IntKind.i64 kd,Value.int IntKind.i64 er=Value.int IntKind.i64 er,Value.int IntKind.i64 f1=Value.int IntKind.i64 f1,Value.int IntKind.i64 f2=Value.int IntKind.i64 f2,Value.int IntKind.i64 d1=Value.int IntKind.i64 d1,Value.int IntKind.i64 d2=Value.int IntKind.i64 d2,Value.string nm=Value.string nm,Value.string ot=Value.string ot,Value.int IntKind.i64 mo=Value.int IntKind.i64 mo,Value.int IntKind.i64 pl=Value.int IntKind.i64 pl,Value.string da=Value.string da,Value.int IntKind.u64 ve=Value.int IntKind.u64 ve,(Th.bts (yaf (IntKind.u64.wrap (R.length:Int)).toNat 5):Td)=Th.bts (yaf (IntKind.u64.wrap (R.length:Int)).toNat 5),(Th.bts (S++ya2 ((R.getD k Rw.zero).ss.getD 0 ⟨#[]⟩).data.toList++fiB ((R.getD k Rw.zero).is.getD 0 0) ((R.getD k Rw.zero).is.getD 1 0)++yaf (IntKind.u64.wrap ((R.getD k Rw.zero).is.getD 2 0)).toNat 2):Td)=Th.bts Sn,Value.int IntKind.i64 (IntKind.i64.wrap ((↑k:Int)+(1:Int)))=Value.int IntKind.i64 (↑(k+(1:Nat)):Int)],by kernel_rfl,(by repeat' first|exact mnil|refine yaa ?_ ?_| (with_reducible assumption)|(with_reducible rfl)|(exact ya1 _)|(exact congrArg Th.bts h5)|(exact congrArg (Value.int .i64) h1)|(exact h3)|(simp only [zae,yae,yg9,yhh];omega)|(exact zbl h3 (by decide))|rfl|exact h0|exact h1|exact h2|exact h3|exact h4|exact h5|trivial)⟩
set_option maxRecDepth 100000 in
theorem we7_x (R:List Rw) (ty cl ss sq bo kd er f1 f2 d1 d2:Int) (nm ot:ByteArray) (mo pl:Int) (da:ByteArray) (ve:Int) (S Sn:List Bool) (k:Nat) (f:Nat→Value) (h0:decide ((k:Int)<(R.length:Int))=false) (h1:S=Sn):∃ qs,alX Id' 25 0 [(4,.c (.one (.obj 25)))] [⟨.us (.ext (.vw [true,false,false,false] R)),false⟩,⟨.blk [.v (.int .i64 ty),.v (.int .i64 cl),.v (.int .u64 ss),.v (.int .u64 sq),.v (.int .u64 bo),.v (.int .i64 kd),.v (.int .i64 er),.v (.int .i64 f1),.v (.int .i64 f2),.v (.int .i64 d1),.v (.int .i64 d2),.v (.string nm),.v (.string ot),.v (.int .i64 mo),.v (.int .i64 pl),.v (.string da),.v (.int .u64 ve),.obj 0],true⟩,⟨.dead,true⟩,⟨.dead,true⟩,⟨.dead,true⟩,⟨.dead,true⟩,⟨.dead,true⟩,⟨.dead,true⟩,⟨.dead,true⟩,⟨.dead,true⟩,⟨.dead,true⟩,⟨.dead,true⟩,⟨.dead,true⟩,⟨.dead,true⟩,⟨.dead,true⟩,⟨.dead,true⟩,⟨.dead,true⟩,⟨.dead,true⟩,⟨.dead,true⟩,⟨.dead,true⟩,⟨.dead,true⟩,⟨.dead,true⟩,⟨.dead,true⟩,⟨.us (.bts (yaf (IntKind.u64.wrap (R.length:Int)).toNat 5)),true⟩,⟨.dead,true⟩,⟨.us (.bts (Sn)),true⟩] ((symC (⟨Try.prog,[(142,ctrV C_mis yaj),(143,ctrV yc9 yaj),(144,ctrV yc8 yaj),(yci (hx:=yag):Nat×Fn2 Td),(ybz (hx:=yag):Nat×Fn2 Td),(yb0 (hx:=yag):Nat×Fn2 Td),(145,ctrF Id' C_rfi yaj)],[],dkHo,Id'.one,60⟩:Sy Td) [] 146 (hdC (ybe (yat Try.f35)) 0) ⟨[(6,.c (.one (.v (.int .i64 (k:Int))))),(4,.c (.one (.obj 25)))]++yb9 (yah (hdC (ybe (yat Try.f35)) 0)) ([(1,.c (.one (.ptr 1 0)))]++tabV f 146),[⟨.us (.ext (.vw [true,false,false,false] R)),false⟩,⟨.blk [.v (.int .i64 ty),.v (.int .i64 cl),.v (.int .u64 ss),.v (.int .u64 sq),.v (.int .u64 bo),.v (.int .i64 kd),.v (.int .i64 er),.v (.int .i64 f1),.v (.int .i64 f2),.v (.int .i64 d1),.v (.int .i64 d2),.v (.string nm),.v (.string ot),.v (.int .i64 mo),.v (.int .i64 pl),.v (.string da),.v (.int .u64 ve),.obj 0],true⟩,⟨.dead,true⟩,⟨.dead,true⟩,⟨.dead,true⟩,⟨.dead,true⟩,⟨.dead,true⟩,⟨.dead,true⟩,⟨.dead,true⟩,⟨.dead,true⟩,⟨.dead,true⟩,⟨.dead,true⟩,⟨.dead,true⟩,⟨.dead,true⟩,⟨.dead,true⟩,⟨.dead,true⟩,⟨.dead,true⟩,⟨.dead,true⟩,⟨.dead,true⟩,⟨.dead,true⟩,⟨.dead,true⟩,⟨.dead,true⟩,⟨.dead,true⟩,⟨.us (.bts (yaf (IntKind.u64.wrap (R.length:Int)).toNat 5)),true⟩,⟨.dead,true⟩,⟨.us (.bts (S)),true⟩],0⟩).al [false])=some qs∧∀ q∈qs,q:=
 ⟨[decide ((↑k:Int)<(↑R.length:Int))=false,(Th.ext (Dk.vw [true,false,false,false] R):Td)=Th.ext (Dk.vw [true,false,false,false] R),Value.int IntKind.i64 ty=Value.int IntKind.i64 ty,Value.int IntKind.i64 cl=Value.int IntKind.i64 cl,Value.int IntKind.u64 ss=Value.int IntKind.u64 ss,Value.int IntKind.u64 sq=Value.int IntKind.u64 sq,Value.int IntKind.u64 bo=Value.int IntKind.u64 bo,Value.int IntKind.i64 kd=Value.int IntKind.i64 kd,Value.int IntKind.i64 er=Value.int IntKind.i64 er,Value.int IntKind.i64 f1=Value.int IntKind.i64 f1,Value.int IntKind.i64 f2=Value.int IntKind.i64 f2,Value.int IntKind.i64 d1=Value.int IntKind.i64 d1,Value.int IntKind.i64 d2=Value.int IntKind.i64 d2,Value.string nm=Value.string nm,Value.string ot=Value.string ot,Value.int IntKind.i64 mo=Value.int IntKind.i64 mo,Value.int IntKind.i64 pl=Value.int IntKind.i64 pl,Value.string da=Value.string da,Value.int IntKind.u64 ve=Value.int IntKind.u64 ve,(Th.bts (yaf (IntKind.u64.wrap (R.length:Int)).toNat 5):Td)=Th.bts (yaf (IntKind.u64.wrap (R.length:Int)).toNat 5),(Th.bts S:Td)=Th.bts Sn],by kernel_rfl,(by repeat' first|exact mnil|refine yaa ?_ ?_| (with_reducible assumption)|(with_reducible rfl)|(exact ya1 _)|(exact congrArg Th.bts h5)|(exact congrArg (Value.int .i64) h1)|(exact h3)|(simp only [zae,yae,yg9,yhh];omega)|(exact zbl h3 (by decide))|rfl|exact h0|exact h1|trivial|(exact congrArg Th.bts h1))⟩
set_option maxRecDepth 100000 in
theorem we7_lp (R:List Rw) (ty cl ss sq bo kd er f1 f2 d1 d2:Int) (nm ot:ByteArray) (mo pl:Int) (da:ByteArray) (ve:Int) (s:List Bool) (hR:R.length≤100) (hz:∀ r∈R,(r.ss.getD 0 ⟨#[]⟩).size≤1000) (hs:s.length≤10000) {W0:World} {G:Nat→Prop} (S0:Sy Td) (hS0:S0.P=Try.prog):ycr S0 Id' W0 G 146 (hdC (ybe (yat Try.f35)) 0) (lpG Id' 146 (hdC (ybe (yat Try.f35)) 0) 25 [(6,.c (.one (.v (.int .i64 ((0:Nat):Int))))),(4,.c (.one (.obj 25)))] [(1,.c (.one (.ptr 1 0)))] [⟨.us (.ext (.vw [true,false,false,false] R)),false⟩,⟨.blk [.v (.int .i64 ty),.v (.int .i64 cl),.v (.int .u64 ss),.v (.int .u64 sq),.v (.int .u64 bo),.v (.int .i64 kd),.v (.int .i64 er),.v (.int .i64 f1),.v (.int .i64 f2),.v (.int .i64 d1),.v (.int .i64 d2),.v (.string nm),.v (.string ot),.v (.int .i64 mo),.v (.int .i64 pl),.v (.string da),.v (.int .u64 ve),.obj 0],true⟩,⟨.dead,true⟩,⟨.dead,true⟩,⟨.dead,true⟩,⟨.dead,true⟩,⟨.dead,true⟩,⟨.dead,true⟩,⟨.dead,true⟩,⟨.dead,true⟩,⟨.dead,true⟩,⟨.dead,true⟩,⟨.dead,true⟩,⟨.dead,true⟩,⟨.dead,true⟩,⟨.dead,true⟩,⟨.dead,true⟩,⟨.dead,true⟩,⟨.dead,true⟩,⟨.dead,true⟩,⟨.dead,true⟩,⟨.dead,true⟩,⟨.dead,true⟩,⟨.us (.bts (yaf (IntKind.u64.wrap (R.length:Int)).toNat 5)),true⟩,⟨.dead,true⟩,⟨.us (.bts ((enB7 s R 0))),true⟩] (.leaf (.exit 0) [(4,.c (.one (.obj 25)))] [⟨.us (.ext (.vw [true,false,false,false] R)),false⟩,⟨.blk [.v (.int .i64 ty),.v (.int .i64 cl),.v (.int .u64 ss),.v (.int .u64 sq),.v (.int .u64 bo),.v (.int .i64 kd),.v (.int .i64 er),.v (.int .i64 f1),.v (.int .i64 f2),.v (.int .i64 d1),.v (.int .i64 d2),.v (.string nm),.v (.string ot),.v (.int .i64 mo),.v (.int .i64 pl),.v (.string da),.v (.int .u64 ve),.obj 0],true⟩,⟨.dead,true⟩,⟨.dead,true⟩,⟨.dead,true⟩,⟨.dead,true⟩,⟨.dead,true⟩,⟨.dead,true⟩,⟨.dead,true⟩,⟨.dead,true⟩,⟨.dead,true⟩,⟨.dead,true⟩,⟨.dead,true⟩,⟨.dead,true⟩,⟨.dead,true⟩,⟨.dead,true⟩,⟨.dead,true⟩,⟨.dead,true⟩,⟨.dead,true⟩,⟨.dead,true⟩,⟨.dead,true⟩,⟨.dead,true⟩,⟨.dead,true⟩,⟨.us (.bts (yaf (IntKind.u64.wrap (R.length:Int)).toNat 5)),true⟩,⟨.dead,true⟩,⟨.us (.bts ((enB7 s R R.length))),true⟩])):=by
 refine yt0 (V:=fun k=>[(6,.c (.one (.v (.int .i64 (k:Int))))),(4,.c (.one (.obj 25)))]) (M:=(fun k=>[⟨.us (.ext (.vw [true,false,false,false] R)),false⟩,⟨.blk [.v (.int .i64 ty),.v (.int .i64 cl),.v (.int .u64 ss),.v (.int .u64 sq),.v (.int .u64 bo),.v (.int .i64 kd),.v (.int .i64 er),.v (.int .i64 f1),.v (.int .i64 f2),.v (.int .i64 d1),.v (.int .i64 d2),.v (.string nm),.v (.string ot),.v (.int .i64 mo),.v (.int .i64 pl),.v (.string da),.v (.int .u64 ve),.obj 0],true⟩,⟨.dead,true⟩,⟨.dead,true⟩,⟨.dead,true⟩,⟨.dead,true⟩,⟨.dead,true⟩,⟨.dead,true⟩,⟨.dead,true⟩,⟨.dead,true⟩,⟨.dead,true⟩,⟨.dead,true⟩,⟨.dead,true⟩,⟨.dead,true⟩,⟨.dead,true⟩,⟨.dead,true⟩,⟨.dead,true⟩,⟨.dead,true⟩,⟨.dead,true⟩,⟨.dead,true⟩,⟨.dead,true⟩,⟨.dead,true⟩,⟨.dead,true⟩,⟨.us (.bts (yaf (IntKind.u64.wrap (R.length:Int)).toNat 5)),true⟩,⟨.dead,true⟩,⟨.us (.bts ((enB7 s R k))),true⟩]:Nat→Mem Td)) (N:=R.length) (Ux:=fun k x=>match x with|.exit 0=>some ([(4,.c (.one (.obj 25)))],([⟨.us (.ext (.vw [true,false,false,false] R)),false⟩,⟨.blk [.v (.int .i64 ty),.v (.int .i64 cl),.v (.int .u64 ss),.v (.int .u64 sq),.v (.int .u64 bo),.v (.int .i64 kd),.v (.int .i64 er),.v (.int .i64 f1),.v (.int .i64 f2),.v (.int .i64 d1),.v (.int .i64 d2),.v (.string nm),.v (.string ot),.v (.int .i64 mo),.v (.int .i64 pl),.v (.string da),.v (.int .u64 ve),.obj 0],true⟩,⟨.dead,true⟩,⟨.dead,true⟩,⟨.dead,true⟩,⟨.dead,true⟩,⟨.dead,true⟩,⟨.dead,true⟩,⟨.dead,true⟩,⟨.dead,true⟩,⟨.dead,true⟩,⟨.dead,true⟩,⟨.dead,true⟩,⟨.dead,true⟩,⟨.dead,true⟩,⟨.dead,true⟩,⟨.dead,true⟩,⟨.dead,true⟩,⟨.dead,true⟩,⟨.dead,true⟩,⟨.dead,true⟩,⟨.dead,true⟩,⟨.dead,true⟩,⟨.us (.bts (yaf (IntKind.u64.wrap (R.length:Int)).toNat 5)),true⟩,⟨.dead,true⟩,⟨.us (.bts ((enB7 s R R.length))),true⟩]:Mem Td))|_=>none) (X:=fun _ _=>True) (J:=fun k=>k≤R.length) (fun k=>by kernel_rfl) (Nat.zero_le _) (fun k hk hJ f=>?_) (fun K hK k x U hk hU hX=>?_)
 ·rw [hS0]
  have hn:=yn2 s R hz k (by omega)
  cases hT:decide ((k:Int)<(R.length:Int)) with
  |false=>
   have hk1:k=R.length:=by have:=of_decide_eq_false hT;omega
   exact rnd_xD (⟨Try.prog,[(142,ctrV C_mis yaj),(143,ctrV yc9 yaj),(144,ctrV yc8 yaj),(yci (hx:=yag):Nat×Fn2 Td),(ybz (hx:=yag):Nat×Fn2 Td),(yb0 (hx:=yag):Nat×Fn2 Td),(145,ctrF Id' C_rfi yaj)],[],dkHo,Id'.one,60⟩:Sy Td) rfl ((fun (W0:World) (G:Nat→Prop)=>SyOk.mk2 Try.mixed yal (FnsR.cons (R_mis) (FnsR.cons (yfp) (FnsR.cons (yfo) (FnsR.cons (ybs (J:=dkI) (hx:=yag)) (FnsR.cons (ybn (J:=dkI) (hx:=yag)) (FnsR.cons (ybo (J:=dkI) (hx:=yag)) (FnsR.cons (R_rfi) (FnsR.nil)))))))) EqsOk.nil) W0 G) (we7_x R ty cl ss sq bo kd er f1 f2 d1 d2 nm ot mo pl da ve _ _ k f hT (by rw [hk1])) rfl trivial
  |true=>
   have hk1:k<R.length:=by have:=of_decide_eq_true hT;omega
   have hW:IntKind.i64.wrap ((k:Int)+1)=((k+1:Nat):Int):=by rw [IntWalk.i64_in _ (by omega)];omega
   have hz1:((R.getD k Rw.zero).ss.getD 0 ⟨#[]⟩).size≤1000:=by
    have hx:R.getD k Rw.zero=R[k]:=by rw [zaf,zaa hk1];rfl
    rw [hx]
    exact hz _ (List.getElem_mem hk1)
   exact rnd_nD (⟨Try.prog,[(142,ctrV C_mis yaj),(143,ctrV yc9 yaj),(144,ctrV yc8 yaj),(yci (hx:=yag):Nat×Fn2 Td),(ybz (hx:=yag):Nat×Fn2 Td),(yb0 (hx:=yag):Nat×Fn2 Td),(145,ctrF Id' C_rfi yaj)],[],dkHo,Id'.one,60⟩:Sy Td) rfl ((fun (W0:World) (G:Nat→Prop)=>SyOk.mk2 Try.mixed yal (FnsR.cons (R_mis) (FnsR.cons (yfp) (FnsR.cons (yfo) (FnsR.cons (ybs (J:=dkI) (hx:=yag)) (FnsR.cons (ybn (J:=dkI) (hx:=yag)) (FnsR.cons (ybo (J:=dkI) (hx:=yag)) (FnsR.cons (R_rfi) (FnsR.nil)))))))) EqsOk.nil) W0 G) (we7_n R ty cl ss sq bo kd er f1 f2 d1 d2 nm ot mo pl da ve _ _ k f hT hW ⟨by omega,hk1⟩ hz1 (by omega) rfl) rfl rfl (by omega) (by omega)
 ·revert hU
  match x with
  |.exit 0=>intro hU;simp only [Option.some.injEq] at hU;subst hU;exact hK
  |.normal=>intro hU;cases hU
  |.ret=>intro hU;cases hU
  |.exit (n+1)=>intro hU;cases hU
section
variable {β:Type} {S:Sy β} {I:ObI β} {W0:World} {G:Nat→Prop} {L:Lps β} {sz:Nat} {w w':World} {e:Env} {mem:Mem β}
def cmOb (I:ObI β) (k0:Nat) (V:List (Nat×SV)) (X:Mem β):Tr β→Option (List Prop)
 |.leaf .normal s'=>ysi I k0 X V s'
 |.br b t e=>(match cmOb I k0 V X t,cmOb I k0 V X e with|some ps,some qs=>some (yme b ps++ypy b qs)|_,_=>none)
 |.need ps t=>(match cmOb I k0 V X t with|some qs=>some (ps++qs)|none=>none)
 |_=>none
theorem yk9 {k0:Nat} {V:List (Nat×SV)} {X:Mem β}:∀ {t:Tr β} {ps:List Prop},cmOb I k0 V X t=some ps→(∀ p∈ps,p)→t.holds (fun x s'=>x=.normal∧Fit3 I k0 X V s')
 |.leaf .normal s',ps,h,hp=>⟨rfl,ps,h,hp⟩
 |.leaf (.exit _) _,_,h,_=>by simp [cmOb] at h
 |.leaf .ret _,_,h,_=>by simp [cmOb] at h
 |.br b t e,ps,h,hp=>by
  simp only [cmOb] at h
  split at h
  ·rename_i ps1 qs1 h1 h2
   simp only [Option.some.injEq] at h
   subst h
   exact ⟨fun hb=>yk9 h1 (ydw hb fun p hq=>hp p (zah _ hq)),fun hb=>yk9 h2 (yex hb fun p hq=>hp p (zag _ hq))⟩
  ·cases h
 |.need qs t,ps,h,hp=>by
  simp only [cmOb] at h
  split at h
  ·rename_i ps1 h1
   simp only [Option.some.injEq] at h
   subst h
   exact ⟨fun p hq=>hp p (zah _ hq),yk9 (t:=t) h1 fun p hq=>hp p (zag _ hq)⟩
  ·cases h
 |.fail,_,h,_=>by simp [cmOb] at h
def cmG (S:Sy β) (I:ObI β) (L:Lps β) (sz k0:Nat) (V:List (Nat×SV)) (X:Mem β):Code→SSt β→Option (Tr β)
 |.cond c x y,s=>(match yax [] s.base [] c,eqb s.mem.length k0&&(yf0 (yah x++yah y) V&&ycm k0 s.base) with
  |some (.c (.one (.v (.bool b)))),true=>(match cmOb I k0 V X (symC S L sz x s),cmOb I k0 V X (symC S L sz y s) with
   |some ps,some qs=>some (.need (yme b ps++ypy b qs) (.leaf .normal (xSt3 (yah x++yah y) V X s)))
   |_,_=>none)
  |_,_=>none)
 |_,_=>none
theorem cond_fr {W:List Nat} {U b base:List (Nat×SV)} {k0:Nat} {xs:List (Option Nat)} {a:Act} (hk:k0≤e.length) (hf:FrOk [] b e a sz) (hU:∀ p∈U,∃ y,yab p.1 b=some y∧∀ u,y.is e u→p.2.is (pEnv k0 e xs) u)
  (hsc:ycm k0 base=true) (hb:∀ t,t ∉ W→yab t b=yab t base):FrOk [] (U++yb9 W base) (pEnv k0 e xs) a sz:=by
 refine ⟨hf.defers,hf.size,fun t=>?_⟩
 simp only [ybb,yas]
 have hs:=hf.slot t
 rcases ya0 (t:=t) (r:=yb9 W base) (pre:=U) with ⟨x,h1,h2⟩|⟨_,h2⟩
 ·rw [h2]
  obtain ⟨y,hy,hfit⟩:=hU _ (ya3 h1)
  simp only [ybb,yas,show yab t b=some y from hy] at hs
  exact hfit _ hs
 ·rw [h2]
  by_cases ht:t∈W
  ·rw [(ybt (W:=W)).1 ht];trivial
  ·rw [(ybt (W:=W)).2 ht]
   simp only [ybb,yas,hb t ht] at hs
   cases hy:yab t base with
   |none=>rw [hy] at hs;exact hs
   |some y=>
    rw [hy] at hs
    exact yje hk xs (ycn hsc hy) hs
theorem cm_sound {S0:Sy β} (hP:S.P=S0.P) (hS:SyOk S I W0 G) {c:Operand} {x y:Code} (hx:LpsOk S I W0 G L sz x) (hy:LpsOk S I W0 G L sz y) {k0:Nat} {V:List (Nat×SV)} {X:Mem β}:
  ye4 S0 I W0 G sz (.cond c x y) (cmG S I L sz k0 V X (.cond c x y)):=by
 intro s t ht
 simp only [cmG] at ht
 split at ht
 case h_2=>cases ht
 rename_i b hb hbk
 simp only [Bool.and_eq_true] at hbk
 obtain ⟨hk,hW,hsc⟩:=hbk
 split at ht
 case h_2=>cases ht
 rename_i ps qs h1 h2
 simp only [Option.some.injEq] at ht
 subst ht
 refine ⟨ylv hW,fun K hK Q a w e hf hM hQ=>?_⟩
 obtain ⟨hK1,hK2⟩:=hK
 have hK2:K .normal (xSt3 (yah x++yah y) V X s):=hK2
 have hel:e.length=k0:=by rw [← eqb_eq.1 hk];exact hM.len
 have fin:∀ (z:Code),(∀ t,t∈yah z→t∈yah x++yah y)→∀ (s':SSt β) (e2:Env) (a2:Act) (w2:World),Fit3 I k0 X V s'→After (·∈yah z) s s'→Grows e e2→FrOk [] s'.base e2 a2 sz→MemOk W0 G I w2 e2 s'.mem→Q .normal a2 w2:=fun z hz s' e2 a2 w2 hfit haf hg hf2 hM2=>by
  obtain ⟨xs,hke,hM3,hU⟩:=hfit.ok hM2
  have hb2:∀ t,t ∉ yah x++yah y→yab t s'.base=yab t s.base:=fun t ht=>by
   obtain ⟨pre,hpre,hprew⟩:=haf.suf
   rw [hpre]
   rcases ya0 (t:=t) (r:=s.base) (pre:=pre) with ⟨v,q1,_⟩|⟨_,q2⟩
   ·exact absurd (hz _ (hprew _ (ya3 q1))) ht
   ·exact q2
  refine hQ .normal _ (pEnv k0 e2 xs) a2 w2 (fun i v hi=>?_) hK2 (cond_fr hke hf2 hU hsc hb2) hM3
  have hlt:i<k0:=by rw [← hel];exact (List.getElem?_eq_some_iff.1 hi).1
  rw [yie hke _ hlt]
  exact hg i v hi
 have hc:a.eval c=.bool b:=yb7 hb rfl (hf.op c)
 rw [← hP]
 refine wp_cond_split hc (fun hbt=>?_) (fun hbt=>?_)
 ·refine ya9 hS x hx (Tr.holds_all (yk9 h1 (ydw hbt fun p hq=>hK1 p (zah _ hq))) (ybj x hx s)) hf hM fun z s' e2 a2 w2 hg hKz hf2 hM2=>?_
  obtain ⟨⟨rfl,hfit⟩,haf⟩:=hKz
  exact fin x (fun t ht=>zah _ ht) s' e2 a2 w2 hfit haf hg hf2 hM2
 ·refine ya9 hS y hy (Tr.holds_all (yk9 h2 (yex hbt fun p hq=>hK1 p (zag _ hq))) (ybj y hy s)) hf hM fun z s' e2 a2 w2 hg hKz hf2 hM2=>?_
  obtain ⟨⟨rfl,hfit⟩,haf⟩:=hKz
  exact fin y (fun t ht=>zag _ ht) s' e2 a2 w2 hfit haf hg hf2 hM2
def yoa (f:Func) (id:Nat):Code:=hdC (yv2 (id+200000) (yb4 (yat f))) 0
def isCond:Code→Bool
 |.cond _ _ _=>true
 |_=>false
def thnC:Code→Code
 |.cond _ x _=>x
 |c=>c
def elsC:Code→Code
 |.cond _ _ y=>y
 |c=>c
theorem LpsOk.free {z:Code} (h:yb4 z=[]):LpsOk S I W0 G L sz z:=fun c hc=>by rw [h] at hc;cases hc
theorem yfk {S0:Sy β} (hP:S.P=S0.P) (hS:SyOk S I W0 G) {z:Code} (hz:isCond z=true) (hx:LpsOk S I W0 G L sz (thnC z)) (hy:LpsOk S I W0 G L sz (elsC z)) {k0:Nat} {V:List (Nat×SV)} {X:Mem β}:
  ye4 S0 I W0 G sz z (cmG S I L sz k0 V X z):=by
 cases z with
 |cond c x y=>exact cm_sound hP hS hx hy
 |_=>cases hz
end
end Go.Proofs.Ytiiekgcjilelpaa
