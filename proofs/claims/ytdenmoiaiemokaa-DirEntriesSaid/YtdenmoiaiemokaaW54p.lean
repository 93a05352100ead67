/- W35 W36 W37 W38 RC1 RC2 W39 W40 W41 Q1 Q2 Q3 Q4 W42 W43 W44 W45 W46 W47 WRd W48 H14 H15 H16 H17 H18 W49 W50 W52 W53 W54. -/
import Derived.Test.YtdenmoiaiemokaaW34p
import Derived.Test.YtdenmoiaiemokaaG3p
import Derived.Test.YtdenmoiaiemokaaF2p
import Derived.Test.YtdenmoiaiemokaaH9p
import Derived.Test.YtdenmoiaiemokaaT20p
import Derived.Test.YtdenmoiaiemokaaBasep
import Derived.Deep.QuietTactic
import Derived.Test.YtdenmoiaiemokaaH3p
import Derived.Test.YtdenmoiaiemokaaOpenp
import Derived.Test.YtdenmoiaiemokaaH13p
set_option linter.unusedVariables false
set_option linter.unusedSimpArgs false
namespace Go.Proofs.Ytdenmoiaiemokaa
open Go.RowKit
def entG (s:RS):Rw:=⟨[gA s,gB s,gC s],[gNm s]⟩
def stE (X:List Rw) (s:RS):Nat→List Rw×RS
 |0=>(X,s)
 |k+1=>(bif (gNm (stE X s k).2).toList==(⟨#[]⟩:ByteArray).toList then (stE X s k).1 else (stE X s k).1++[entG (stE X s k).2],gE (stE X s k).2)
def stO (L:List (List UInt8)):Nat→List Rw
 |0=>[]
 |k+1=>(stE (stO L k) (RS.new (L.getD k [])) 5).1
set_option maxRecDepth 100000 in
theorem ein_n1 (L:List (List UInt8)) (X Y:List Rw) (s s2:RS) (j j2:Int) (k:Nat) (f:Nat→Value) (h0:decide (j<(5:Int))=true) (h1:((gNm s).toList==(ByteArray.mk #[]).toList)=false) (h2:IntKind.i64.wrap (j+1)=j2) (h3:X.length+1≤100000) (h4:gE s=s2) (h5:X++[entG s]=Y):∃ qs,alN Id' 4 [(19,.c (.one (.v (.int .i64 j2)))),(4,.c (.one (.obj 4)))] [⟨.us (.ext (.shr 1 L.length (tbE L))),false⟩,⟨.dead,true⟩,⟨.dead,true⟩,⟨.us (.rd s2),true⟩,⟨.us (.ext (.flat (.rw 109 [true,false,false,false] Y))),true⟩] ((symC (⟨Try.prog,[(125,ctrF Id' C_dget hardD)],[],dkHo,Id'.one,60⟩:Sy Td) [] 46 (hdC (loopsC (bodyOf Try.f61)) 1) ⟨[(19,.c (.one (.v (.int .i64 j)))),(4,.c (.one (.obj 4)))]++anyB' (writesC (hdC (loopsC (bodyOf Try.f61)) 1)) ([(7,.c (.one (.obj 3)))]++tabV f 46),[⟨.us (.ext (.shr 1 L.length (tbE L))),false⟩,⟨.dead,true⟩,⟨.dead,true⟩,⟨.us (.rd s),true⟩,⟨.us (.ext (.flat (.rw 109 [true,false,false,false] X))),true⟩],0⟩).al [true,true])=some qs∧∀ q∈qs,q:=
 ⟨[decide (j<(5:Int))=true,(!(gNm s).toList==(ByteArray.mk #[]).toList)=true,X.length+[Rw.mk [gA s,gB s,gC s] [gNm s]].length≤(100000:Nat),Th.ext (Dk.shr 1 L.length (tbE L))=Th.ext (Dk.shr 1 L.length (tbE L)),(Th.rd (gE s):Td)=Th.rd s2,(Th.ext (Dk.flat (FL.rw 109 [true,false,false,false] (X++[entG s]))):Td)=Th.ext (Dk.flat (FL.rw 109 [true,false,false,false] Y)),Value.int IntKind.i64 (IntKind.i64.wrap (j+(1:Int)))=Value.int IntKind.i64 j2],by kernel_rfl,(by refine mcons ?_ (mcons ?_ (mcons ?_ (mcons ?_ (mcons ?_ (mcons ?_ (mcons ?_ mnil))))))<;>first|rfl|exact h0|exact h1|exact h2|exact h3|exact h4|exact h5|trivial|(exact congrArg (! ·) h1)|(exact congrArg Th.rd h4)|(exact congrArg (fun x=>(Th.ext (Dk.flat (FL.rw 109 [true,false,false,false] x)):Td)) h5)|(exact congrArg (Value.int .i64) h2))⟩
set_option maxRecDepth 100000 in
theorem ein_n0 (L:List (List UInt8)) (X Y:List Rw) (s s2:RS) (j j2:Int) (k:Nat) (f:Nat→Value) (h0:decide (j<(5:Int))=true) (h1:((gNm s).toList==(ByteArray.mk #[]).toList)=true) (h2:IntKind.i64.wrap (j+1)=j2) (h3:gE s=s2) (h4:X=Y):∃ qs,alN Id' 4 [(19,.c (.one (.v (.int .i64 j2)))),(4,.c (.one (.obj 4)))] [⟨.us (.ext (.shr 1 L.length (tbE L))),false⟩,⟨.dead,true⟩,⟨.dead,true⟩,⟨.us (.rd s2),true⟩,⟨.us (.ext (.flat (.rw 109 [true,false,false,false] Y))),true⟩] ((symC (⟨Try.prog,[(125,ctrF Id' C_dget hardD)],[],dkHo,Id'.one,60⟩:Sy Td) [] 46 (hdC (loopsC (bodyOf Try.f61)) 1) ⟨[(19,.c (.one (.v (.int .i64 j)))),(4,.c (.one (.obj 4)))]++anyB' (writesC (hdC (loopsC (bodyOf Try.f61)) 1)) ([(7,.c (.one (.obj 3)))]++tabV f 46),[⟨.us (.ext (.shr 1 L.length (tbE L))),false⟩,⟨.dead,true⟩,⟨.dead,true⟩,⟨.us (.rd s),true⟩,⟨.us (.ext (.flat (.rw 109 [true,false,false,false] X))),true⟩],0⟩).al [true,false])=some qs∧∀ q∈qs,q:=
 ⟨[decide (j<(5:Int))=true,(!(gNm s).toList==(ByteArray.mk #[]).toList)=false,Th.ext (Dk.shr 1 L.length (tbE L))=Th.ext (Dk.shr 1 L.length (tbE L)),(Th.rd (gE s):Td)=Th.rd s2,Th.ext (Dk.flat (FL.rw 109 [true,false,false,false] X))=Th.ext (Dk.flat (FL.rw 109 [true,false,false,false] Y)),Value.int IntKind.i64 (IntKind.i64.wrap (j+(1:Int)))=Value.int IntKind.i64 j2],by kernel_rfl,(by refine mcons ?_ (mcons ?_ (mcons ?_ (mcons ?_ (mcons ?_ (mcons ?_ mnil)))))<;>first|rfl|exact h0|exact h1|exact h2|exact h3|exact h4|trivial|(exact congrArg (! ·) h1)|(exact congrArg Th.rd h3)|(exact congrArg (fun x=>(Th.ext (Dk.flat (FL.rw 109 [true,false,false,false] x)):Td)) h4)|(exact congrArg (Value.int .i64) h2))⟩
set_option maxRecDepth 100000 in
theorem ein_x (L:List (List UInt8)) (X:List Rw) (s:RS) (j:Int) (k:Nat) (f:Nat→Value) (h0:decide (j<(5:Int))=false):∃ qs,alX Id' 4 2 [(4,.c (.one (.obj 4)))] [⟨.us (.ext (.shr 1 L.length (tbE L))),false⟩,⟨.dead,true⟩,⟨.dead,true⟩,⟨.us (.rd s),true⟩,⟨.us (.ext (.flat (.rw 109 [true,false,false,false] X))),true⟩] ((symC (⟨Try.prog,[(125,ctrF Id' C_dget hardD)],[],dkHo,Id'.one,60⟩:Sy Td) [] 46 (hdC (loopsC (bodyOf Try.f61)) 1) ⟨[(19,.c (.one (.v (.int .i64 j)))),(4,.c (.one (.obj 4)))]++anyB' (writesC (hdC (loopsC (bodyOf Try.f61)) 1)) ([(7,.c (.one (.obj 3)))]++tabV f 46),[⟨.us (.ext (.shr 1 L.length (tbE L))),false⟩,⟨.dead,true⟩,⟨.dead,true⟩,⟨.us (.rd s),true⟩,⟨.us (.ext (.flat (.rw 109 [true,false,false,false] X))),true⟩],0⟩).al [false])=some qs∧∀ q∈qs,q:=
 ⟨[decide (j<(5:Int))=false,Th.ext (Dk.shr 1 L.length (tbE L))=Th.ext (Dk.shr 1 L.length (tbE L)),(Th.rd s:Td)=Th.rd s,Th.ext (Dk.flat (FL.rw 109 [true,false,false,false] X))=Th.ext (Dk.flat (FL.rw 109 [true,false,false,false] X))],by kernel_rfl,(by refine mcons ?_ (mcons ?_ (mcons ?_ (mcons ?_ mnil)))<;>first|rfl|exact h0|trivial)⟩
theorem stE_len (X:List Rw) (s:RS):∀ k,(stE X s k).1.length≤X.length+k
 |0=>Nat.le_refl _
 |k+1=>by
  have:=stE_len X s k
  unfold stE
  cases h:((gNm (stE X s k).2).toList==(⟨#[]⟩:ByteArray).toList) with
  |true=>show (stE X s k).1.length≤_;omega
  |false=>show ((stE X s k).1++[_]).length≤_;rw [List.length_append,List.length_singleton];omega
theorem stO_len (L:List (List UInt8)):∀ k,(stO L k).length≤5 * k
 |0=>Nat.le_refl _
 |k+1=>by
  have h1:=stO_len L k
  have h2:=stE_len (stO L k) (RS.new (L.getD k [])) 5
  show (stE _ _ 5).1.length≤_
  omega
set_option maxRecDepth 100000 in
theorem ein_lp (L:List (List UInt8)) (X:List Rw) (s:RS) (hX:X.length≤10000) {W0:World} {G:Nat→Prop} (S0:Sy Td) (hS0:S0.P=Try.prog):LoopSound S0 Id' W0 G 46 (hdC (loopsC (bodyOf Try.f61)) 1) (lpG Id' 46 (hdC (loopsC (bodyOf Try.f61)) 1) 4 [(19,.c (.one (.v (.int .i64 ((0:Nat):Int))))),(4,.c (.one (.obj 4)))] [(7,.c (.one (.obj 3)))] [⟨.us (.ext (.shr 1 L.length (tbE L))),false⟩,⟨.dead,true⟩,⟨.dead,true⟩,⟨.us (.rd (stE X s 0).2),true⟩,⟨.us (.ext (.flat (.rw 109 [true,false,false,false] (stE X s 0).1))),true⟩] (.leaf (.exit 2) [(4,.c (.one (.obj 4)))] [⟨.us (.ext (.shr 1 L.length (tbE L))),false⟩,⟨.dead,true⟩,⟨.dead,true⟩,⟨.us (.rd (stE X s 5).2),true⟩,⟨.us (.ext (.flat (.rw 109 [true,false,false,false] (stE X s 5).1))),true⟩])):=by
 refine lp_sound (V:=fun k=>[(19,.c (.one (.v (.int .i64 (k:Int))))),(4,.c (.one (.obj 4)))]) (M:=(fun k=>[⟨.us (.ext (.shr 1 L.length (tbE L))),false⟩,⟨.dead,true⟩,⟨.dead,true⟩,⟨.us (.rd (stE X s k).2),true⟩,⟨.us (.ext (.flat (.rw 109 [true,false,false,false] (stE X s k).1))),true⟩]:Nat→Mem Td)) (N:=5) (Ux:=fun k x=>match x with|.exit 2=>some ([(4,.c (.one (.obj 4)))],([⟨.us (.ext (.shr 1 L.length (tbE L))),false⟩,⟨.dead,true⟩,⟨.dead,true⟩,⟨.us (.rd (stE X s 5).2),true⟩,⟨.us (.ext (.flat (.rw 109 [true,false,false,false] (stE X s 5).1))),true⟩]:Mem Td))|_=>none) (X:=fun _ _=>True) (J:=fun k=>k≤5) (fun k=>by kernel_rfl) (Nat.zero_le _) (fun k hk hJ f=>?_) (fun K hK k x U hk hU hX=>?_)
 ·rw [hS0]
  cases hT:decide ((k:Int)<(5:Int)) with
  |false=>
   have hke:k=5:=by have:=of_decide_eq_false hT;omega
   subst hke
   exact rnd_xD (⟨Try.prog,[(125,ctrF Id' C_dget hardD)],[],dkHo,Id'.one,60⟩:Sy Td) rfl ((fun (W0:World) (G:Nat→Prop)=>SyOk.mk2 Try.mixed dkHo_ok (FnsR.cons (R_dget) (FnsR.nil)) EqsOk.nil) W0 G) (ein_x L _ _ _ 5 f hT) rfl trivial
  |true=>
   have hk1:=of_decide_eq_true hT
   have hW:IntKind.i64.wrap ((k:Int)+1)=((k+1:Nat):Int):=by rw [IntWalk.i64_in _ (by omega)];omega
   have hl:=stE_len X s k
   cases hq:((gNm (stE X s k).2).toList==(ByteArray.mk #[]).toList) with
   |true=>
    have hq2:((gNm (stE X s k).2).toList==(⟨#[]⟩:ByteArray).toList)=true:=hq
    exact rnd_nD (⟨Try.prog,[(125,ctrF Id' C_dget hardD)],[],dkHo,Id'.one,60⟩:Sy Td) rfl ((fun (W0:World) (G:Nat→Prop)=>SyOk.mk2 Try.mixed dkHo_ok (FnsR.cons (R_dget) (FnsR.nil)) EqsOk.nil) W0 G) (ein_n0 L (stE X s k).1 (stE X s (k+1)).1 (stE X s k).2 (stE X s (k+1)).2 _ _ k f hT hq hW rfl (by simp only [stE,hq2,cond_true])) rfl rfl (by omega) (by omega)
   |false=>
    have hq2:((gNm (stE X s k).2).toList==(⟨#[]⟩:ByteArray).toList)=false:=hq
    exact rnd_nD (⟨Try.prog,[(125,ctrF Id' C_dget hardD)],[],dkHo,Id'.one,60⟩:Sy Td) rfl ((fun (W0:World) (G:Nat→Prop)=>SyOk.mk2 Try.mixed dkHo_ok (FnsR.cons (R_dget) (FnsR.nil)) EqsOk.nil) W0 G) (ein_n1 L (stE X s k).1 (stE X s (k+1)).1 (stE X s k).2 (stE X s (k+1)).2 _ _ k f hT hq hW (by omega) rfl (by simp only [stE,hq2,cond_false])) rfl rfl (by omega) (by omega)
 ·revert hU
  match x with
  |.normal=>intro hU;cases hU
  |.ret=>intro hU;cases hU
  |.exit n=>
   intro hU
   by_cases h:n=2
   ·subst h;simp only [Option.some.injEq] at hU;subst hU;exact hK
   ·exfalso;split at hU
    ·rename_i he;cases he;exact h rfl
    ·cases hU
end Go.Proofs.Ytdenmoiaiemokaa
set_option linter.unusedVariables false
set_option linter.unusedSimpArgs false
namespace Go.Proofs.Ytdenmoiaiemokaa
open Go.RowKit
set_option maxRecDepth 100000 in
theorem eou_n (L:List (List UInt8)) (X Y:List Rw) (i i2:Int) (k:Nat) (f:Nat→Value) (h0:decide (i<(L.length:Int))=true) (h1:IntKind.i64.wrap (i+1)=i2) (h2:(0:Int)≤i∧i.toNat<L.length) (h3:(L.getD i.toNat []).length≤(100000:Nat)) (h4:(stE X (RS.new (L.getD i.toNat [])) 5).1=Y):∃ qs,alN Id' 1 [(13,.c (.one (.v (.int .i64 i2)))),(4,.c (.one (.obj 1)))] [⟨.us (.ext (.shr 1 L.length (tbE L))),false⟩,⟨.us (.ext (.flat (.rw 109 [true,false,false,false] Y))),true⟩] ((symC (⟨Try.prog,[F_open (ξ:=Dk) (hx:=hardDk)],[],dkHo,Id'.one,60⟩:Sy Td) [(7,(lpG Id' 46 (hdC (loopsC (bodyOf Try.f61)) 1) 4 [(19,.c (.one (.v (.int .i64 ((0:Nat):Int))))),(4,.c (.one (.obj 4)))] [(7,.c (.one (.obj 3)))] [⟨.us (.ext (.shr 1 L.length (tbE L))),false⟩,⟨.dead,true⟩,⟨.dead,true⟩,⟨.us (.rd (stE X (RS.new (L.getD i.toNat [])) 0).2),true⟩,⟨.us (.ext (.flat (.rw 109 [true,false,false,false] (stE X (RS.new (L.getD i.toNat [])) 0).1))),true⟩] (.leaf (.exit 2) [(4,.c (.one (.obj 4)))] [⟨.us (.ext (.shr 1 L.length (tbE L))),false⟩,⟨.dead,true⟩,⟨.dead,true⟩,⟨.us (.rd (stE X (RS.new (L.getD i.toNat [])) 5).2),true⟩,⟨.us (.ext (.flat (.rw 109 [true,false,false,false] (stE X (RS.new (L.getD i.toNat [])) 5).1))),true⟩])))] 46 (hdC (loopsC (bodyOf Try.f61)) 0) ⟨[(13,.c (.one (.v (.int .i64 i)))),(4,.c (.one (.obj 1)))]++anyB' (writesC (hdC (loopsC (bodyOf Try.f61)) 0)) ([(0,.c (.one (.obj 0))),(11,.c (.one (.obj 0))),(12,.c (.one (.v (.int .i64 (L.length:Int)))))]++tabV f 46),[⟨.us (.ext (.shr 1 L.length (tbE L))),false⟩,⟨.us (.ext (.flat (.rw 109 [true,false,false,false] X))),true⟩],0⟩).al [true])=some qs∧∀ q∈qs,q:=
 ⟨[decide (i<(↑L.length:Int))=true,(0:Int)≤i∧i.toNat<L.length,(L.getD i.toNat []).length≤(100000:Nat),Th.ext (Dk.shr 1 L.length (tbE L))=Th.ext (Dk.shr 1 L.length (tbE L)),(Th.rd (RS.new (L.getD i.toNat [])):Td)=Th.rd (RS.new (L.getD i.toNat [])),Th.ext (Dk.flat (FL.rw 109 [true,false,false,false] X))=Th.ext (Dk.flat (FL.rw 109 [true,false,false,false] X)),Value.int IntKind.i64 (Int.ofNat 0)=Value.int IntKind.i64 (Int.ofNat (0:Nat)),Th.ext (Dk.shr 1 L.length (tbE L))=Th.ext (Dk.shr 1 L.length (tbE L)),Th.ext (Dk.flat (FL.rw 109 [true,false,false,false] (stE X (RS.new (L.getD i.toNat [])) (5:Nat)).fst))=Th.ext (Dk.flat (FL.rw 109 [true,false,false,false] Y)),Value.int IntKind.i64 (IntKind.i64.wrap (i+(1:Int)))=Value.int IntKind.i64 i2],by kernel_rfl,(by refine mcons ?_ (mcons ?_ (mcons ?_ (mcons ?_ (mcons ?_ (mcons ?_ (mcons ?_ (mcons ?_ (mcons ?_ (mcons ?_ mnil)))))))))<;>first|rfl|exact h0|exact h1|exact h2|exact h3|exact h4|trivial|(exact congrArg (fun x=>(Th.ext (Dk.flat (FL.rw 109 [true,false,false,false] x)):Td)) h4)|(exact congrArg (Value.int .i64) h1))⟩
set_option maxRecDepth 100000 in
theorem eou_x (L:List (List UInt8)) (X Y:List Rw) (i i2:Int) (k:Nat) (f:Nat→Value) (h0:decide (i<(L.length:Int))=false) (h1:X=Y):∃ qs,alX Id' 1 0 [(4,.c (.one (.obj 1)))] [⟨.us (.ext (.shr 1 L.length (tbE L))),false⟩,⟨.us (.ext (.flat (.rw 109 [true,false,false,false] Y))),true⟩] ((symC (⟨Try.prog,[F_open (ξ:=Dk) (hx:=hardDk)],[],dkHo,Id'.one,60⟩:Sy Td) [(7,(lpG Id' 46 (hdC (loopsC (bodyOf Try.f61)) 1) 4 [(19,.c (.one (.v (.int .i64 ((0:Nat):Int))))),(4,.c (.one (.obj 4)))] [(7,.c (.one (.obj 3)))] [⟨.us (.ext (.shr 1 L.length (tbE L))),false⟩,⟨.dead,true⟩,⟨.dead,true⟩,⟨.us (.rd (stE X (RS.new (L.getD i.toNat [])) 0).2),true⟩,⟨.us (.ext (.flat (.rw 109 [true,false,false,false] (stE X (RS.new (L.getD i.toNat [])) 0).1))),true⟩] (.leaf (.exit 2) [(4,.c (.one (.obj 4)))] [⟨.us (.ext (.shr 1 L.length (tbE L))),false⟩,⟨.dead,true⟩,⟨.dead,true⟩,⟨.us (.rd (stE X (RS.new (L.getD i.toNat [])) 5).2),true⟩,⟨.us (.ext (.flat (.rw 109 [true,false,false,false] (stE X (RS.new (L.getD i.toNat [])) 5).1))),true⟩])))] 46 (hdC (loopsC (bodyOf Try.f61)) 0) ⟨[(13,.c (.one (.v (.int .i64 i)))),(4,.c (.one (.obj 1)))]++anyB' (writesC (hdC (loopsC (bodyOf Try.f61)) 0)) ([(0,.c (.one (.obj 0))),(11,.c (.one (.obj 0))),(12,.c (.one (.v (.int .i64 (L.length:Int)))))]++tabV f 46),[⟨.us (.ext (.shr 1 L.length (tbE L))),false⟩,⟨.us (.ext (.flat (.rw 109 [true,false,false,false] X))),true⟩],0⟩).al [false])=some qs∧∀ q∈qs,q:=
 ⟨[decide (i<(↑L.length:Int))=false,Th.ext (Dk.shr 1 L.length (tbE L))=Th.ext (Dk.shr 1 L.length (tbE L)),Th.ext (Dk.flat (FL.rw 109 [true,false,false,false] X))=Th.ext (Dk.flat (FL.rw 109 [true,false,false,false] Y))],by kernel_rfl,(by refine mcons ?_ (mcons ?_ (mcons ?_ mnil))<;>first|rfl|exact h0|exact h1|trivial|(exact congrArg (fun x=>(Th.ext (Dk.flat (FL.rw 109 [true,false,false,false] x)):Td)) h1))⟩
set_option maxRecDepth 100000 in
theorem eou_lp (L:List (List UInt8)) (hL:L.length≤1000) (hw:∀ l∈L,l.length≤100000) {W0:World} {G:Nat→Prop} (S0:Sy Td) (hS0:S0.P=Try.prog):LoopSound S0 Id' W0 G 46 (hdC (loopsC (bodyOf Try.f61)) 0) (lpG Id' 46 (hdC (loopsC (bodyOf Try.f61)) 0) 1 [(13,.c (.one (.v (.int .i64 ((0:Nat):Int))))),(4,.c (.one (.obj 1)))] [(0,.c (.one (.obj 0))),(11,.c (.one (.obj 0))),(12,.c (.one (.v (.int .i64 (L.length:Int)))))] [⟨.us (.ext (.shr 1 L.length (tbE L))),false⟩,⟨.us (.ext (.flat (.rw 109 [true,false,false,false] (stO L 0)))),true⟩] (.leaf (.exit 0) [(4,.c (.one (.obj 1)))] [⟨.us (.ext (.shr 1 L.length (tbE L))),false⟩,⟨.us (.ext (.flat (.rw 109 [true,false,false,false] (stO L L.length)))),true⟩])):=by
 refine lp_sound (V:=fun k=>[(13,.c (.one (.v (.int .i64 (k:Int))))),(4,.c (.one (.obj 1)))]) (M:=(fun k=>[⟨.us (.ext (.shr 1 L.length (tbE L))),false⟩,⟨.us (.ext (.flat (.rw 109 [true,false,false,false] (stO L k)))),true⟩]:Nat→Mem Td)) (N:=L.length) (Ux:=fun k x=>match x with|.exit 0=>some ([(4,.c (.one (.obj 1)))],([⟨.us (.ext (.shr 1 L.length (tbE L))),false⟩,⟨.us (.ext (.flat (.rw 109 [true,false,false,false] (stO L L.length)))),true⟩]:Mem Td))|_=>none) (X:=fun _ _=>True) (J:=fun k=>k≤L.length) (fun k=>by kernel_rfl) (Nat.zero_le _) (fun k hk hJ f=>?_) (fun K hK k x U hk hU hX=>?_)
 ·rw [hS0]
  have hl:=stO_len L k
  cases hT:decide ((k:Int)<(L.length:Int)) with
  |false=>
   have hke:k=L.length:=by have:=of_decide_eq_false hT;omega
   obtain ⟨ps,h1,h2⟩:=eou_x L (stO L k) (stO L L.length) (k:Int) 0 k f hT (by rw [hke])
   exact rnd_x (⟨Try.prog,[F_open (ξ:=Dk) (hx:=hardDk)],[],dkHo,Id'.one,60⟩:Sy Td) [(7,(lpG Id' 46 (hdC (loopsC (bodyOf Try.f61)) 1) 4 [(19,.c (.one (.v (.int .i64 ((0:Nat):Int))))),(4,.c (.one (.obj 4)))] [(7,.c (.one (.obj 3)))] [⟨.us (.ext (.shr 1 L.length (tbE L))),false⟩,⟨.dead,true⟩,⟨.dead,true⟩,⟨.us (.rd (stE (stO L k) (RS.new (L.getD ((k:Int)).toNat [])) 0).2),true⟩,⟨.us (.ext (.flat (.rw 109 [true,false,false,false] (stE (stO L k) (RS.new (L.getD ((k:Int)).toNat [])) 0).1))),true⟩] (.leaf (.exit 2) [(4,.c (.one (.obj 4)))] [⟨.us (.ext (.shr 1 L.length (tbE L))),false⟩,⟨.dead,true⟩,⟨.dead,true⟩,⟨.us (.rd (stE (stO L k) (RS.new (L.getD ((k:Int)).toNat [])) 5).2),true⟩,⟨.us (.ext (.flat (.rw 109 [true,false,false,false] (stE (stO L k) (RS.new (L.getD ((k:Int)).toNat [])) 5).1))),true⟩])))] rfl ((fun (W0:World) (G:Nat→Prop)=>SyOk.mk2 Try.mixed dkHo_ok (FnsR.cons (F_open_ok (J:=dkI) (hx:=hardDk)) (FnsR.nil)) EqsOk.nil) W0 G) (LpsOk.cons (by kernel_rfl) (ein_lp L (stO L k) (RS.new (L.getD ((k:Int)).toNat [])) (by omega) _ rfl) (LpsOk.nil _)) (m2:=_) (fun w e h=>h) [false] 0 ps h1 h2 rfl trivial
  |true=>
   have hk1:=of_decide_eq_true hT
   have hW:IntKind.i64.wrap ((k:Int)+1)=((k+1:Nat):Int):=by rw [IntWalk.i64_in _ (by omega)];omega
   have hm:(L.getD ((k:Int)).toNat []).length≤100000:=by
    rw [Int.toNat_natCast,List.getD_eq_getElem?_getD,List.getElem?_eq_getElem (show k<L.length by omega)]
    exact hw _ (List.getElem_mem _)
   obtain ⟨ps,h1,h2⟩:=eou_n L (stO L k) (stO L (k+1)) (k:Int) ((k+1:Nat):Int) k f hT hW ⟨by omega,by omega⟩ hm (by rw [Int.toNat_natCast];rfl)
   exact rnd_n (⟨Try.prog,[F_open (ξ:=Dk) (hx:=hardDk)],[],dkHo,Id'.one,60⟩:Sy Td) [(7,(lpG Id' 46 (hdC (loopsC (bodyOf Try.f61)) 1) 4 [(19,.c (.one (.v (.int .i64 ((0:Nat):Int))))),(4,.c (.one (.obj 4)))] [(7,.c (.one (.obj 3)))] [⟨.us (.ext (.shr 1 L.length (tbE L))),false⟩,⟨.dead,true⟩,⟨.dead,true⟩,⟨.us (.rd (stE (stO L k) (RS.new (L.getD ((k:Int)).toNat [])) 0).2),true⟩,⟨.us (.ext (.flat (.rw 109 [true,false,false,false] (stE (stO L k) (RS.new (L.getD ((k:Int)).toNat [])) 0).1))),true⟩] (.leaf (.exit 2) [(4,.c (.one (.obj 4)))] [⟨.us (.ext (.shr 1 L.length (tbE L))),false⟩,⟨.dead,true⟩,⟨.dead,true⟩,⟨.us (.rd (stE (stO L k) (RS.new (L.getD ((k:Int)).toNat [])) 5).2),true⟩,⟨.us (.ext (.flat (.rw 109 [true,false,false,false] (stE (stO L k) (RS.new (L.getD ((k:Int)).toNat [])) 5).1))),true⟩])))] rfl ((fun (W0:World) (G:Nat→Prop)=>SyOk.mk2 Try.mixed dkHo_ok (FnsR.cons (F_open_ok (J:=dkI) (hx:=hardDk)) (FnsR.nil)) EqsOk.nil) W0 G) (LpsOk.cons (by kernel_rfl) (ein_lp L (stO L k) (RS.new (L.getD ((k:Int)).toNat [])) (by omega) _ rfl) (LpsOk.nil _)) (m2:=_) (fun w e h=>h) [true] ps h1 h2 rfl rfl (by omega) (by omega)
 ·revert hU
  match x with
  |.exit 0=>intro hU;simp only [Option.some.injEq] at hU;subst hU;exact hK
  |.normal=>intro hU;cases hU
  |.ret=>intro hU;cases hU
  |.exit (n+1)=>intro hU;cases hU
end Go.Proofs.Ytdenmoiaiemokaa
set_option linter.unusedVariables false
set_option linter.unusedSimpArgs false
namespace Go.Proofs.Ytdenmoiaiemokaa
open Go.RowKit
section
variable {W0:World} {G:Nat→Prop} {sz:Nat} {w:World} {e:Env} {mem:Mem Td}
def regO (id:Nat):Code→List Oper
 |.region i ops _=>match eqb i id with|true=>ops.toList|false=>[]
 |.seq x y=>regO id x++regO id y
 |.cond _ x y=>regO id x++regO id y
 |.block _ c=>regO id c
 |.loop c=>regO id c
 |_=>[]
def drwR (id:Nat):Code→Bool
 |.region i _ d=>match eqb i id with|true=>d|false=>false
 |.seq x y=>drwR id x||drwR id y
 |.cond _ x y=>drwR id x||drwR id y
 |.block _ c=>drwR id c
 |.loop c=>drwR id c
 |_=>false
def mapG (f:Mem Td→Mem Td) (S:Sy Td) (sz:Nat) (l:List Oper) (d:Bool):SSt Td→Option (Tr Td):=fun s=>forceN (s.ver+1) fun v=>some (regionB S sz l d ⟨s.base,f s.mem,v⟩)
theorem mapG_sound {Sq:Sy Td} (hS:SyOk Sq Id' W0 G) {S:Sy Td} (hP:S.P=Sq.P) {id:Nat} {l:List Oper} {d:Bool} {f:Mem Td→Mem Td} (hf:∀ w e mem,MemOk W0 G Id' w e mem→MemOk W0 G Id' w e (f mem)):FragSound S Id' W0 G sz (.region id l.toArray d) (mapG f Sq sz l d):=by
 intro s t hg
 unfold mapG at hg
 rw [forceN_eq] at hg
 simp only [Option.some.injEq] at hg
 subst hg
 refine ⟨Tr.all_mono (fun s' h=>?_) (regionB_after (S:=Sq) (sz:=sz) (l:=l) (d:=d) (s:=⟨s.base,f s.mem,s.ver+1⟩)),fun K hK Q a w e hfr hM hend=>?_⟩
 ·obtain ⟨⟨pre,h1,h2⟩,h3,_⟩:=h
  refine ⟨⟨pre,h1,fun p hp=>by simpa [writesC] using h2 p hp⟩,Nat.le_of_succ_le h3,fun hv=>absurd (hv▸h3) (Nat.not_succ_le_self _)⟩
 ·rw [hP]
  exact regionB_sound hS (s:=⟨s.base,f s.mem,s.ver+1⟩) hK hfr (hf w e s.mem hM) fun s' e' a' w' hg hk hf' hM'=>hend .normal s' e' a' w' hg hk hf' hM'
def modAt (g:En Td→En Td):Nat→Mem Td→Mem Td
 |_,[]=>[]
 |0,en::r=>g en::r
 |i+1,en::r=>en::modAt g i r
theorem modAt_len (g:En Td→En Td):∀ (i:Nat) (m:Mem Td),(modAt g i m).length=m.length
 |_,[]=>by simp [modAt]
 |0,en::r=>rfl
 |i+1,en::r=>by simp [modAt,modAt_len g i r]
theorem modAt_get (g:En Td→En Td):∀ (i:Nat) (m:Mem Td) (j:Nat) (n:En Td),(modAt g i m)[j]? =some n→∃ n0,m[j]? =some n0∧(n=n0∨n=g n0)
 |_,[],j,n,h=>by simp [modAt] at h
 |0,en::r,0,n,h=>by simp [modAt] at h;exact ⟨en,rfl,.inr h.symm⟩
 |0,en::r,j+1,n,h=>by simp [modAt] at h;exact ⟨n,by simpa using h,.inl rfl⟩
 |i+1,en::r,0,n,h=>by simp [modAt] at h;exact ⟨en,rfl,.inl h.symm⟩
 |i+1,en::r,j+1,n,h=>by
  simp only [modAt,List.getElem?_cons_succ] at h ⊢
  exact modAt_get g i r j n h
def toBx (en:En Td):En Td:=match en.ob with
 |.blk cs=>⟨.bx cs,en.mu⟩
 |_=>en
theorem bx_ok (i:Nat) (w:World) (e:Env) (mem:Mem Td) (hM:MemOk W0 G Id' w e mem):MemOk W0 G Id' w e (modAt toBx i mem):=hM.like (modAt_len _ _ _) fun j n' hn=>by
 obtain ⟨n,h1,h2⟩:=modAt_get _ _ _ _ _ hn
 refine ⟨n,h1,?_⟩
 rcases h2 with rfl|rfl
 ·exact ⟨rfl,fun u h=>h,fun u k h=>h,fun u k h=>h⟩
 ·unfold toBx
  split
  ·rename_i cs hb
   rw [hb]
   exact ⟨rfl,fun u h=>h,fun u k h=>h,fun u k h=>h⟩
  ·exact ⟨rfl,fun u h=>h,fun u k h=>h,fun u k h=>h⟩
theorem wk_ok (i:Nat) (w:World) (e:Env) (mem:Mem Td) (hM:MemOk W0 G Id' w e mem):MemOk W0 G Id' w e (modAt wkE i mem):=by
 have key:∀ (j:Nat) (n':En Td),(modAt wkE i mem)[j]? =some n'→∃ n,mem[j]? =some n∧(∀ u,Holds Id' e w u n.mu n.ob→Holds Id' e w u n'.mu n'.ob)∧(∀ u k,Foot Id' w u n'.ob k→Foot Id' w u n.ob k)∧(n'.mu=true→n'=n):=fun j n' hn=>by
  obtain ⟨n,h1,h2⟩:=modAt_get _ _ _ _ _ hn
  refine ⟨n,h1,?_⟩
  rcases h2 with rfl|rfl
  ·exact ⟨fun u h=>h,fun u k h=>h,fun _=>rfl⟩
  ·refine ⟨fun u hh=>?_,fun u k hk=>wkE_foot hk,fun h=>(wkE_mu h).1⟩
   rcases wkE_cases n with ⟨he,_⟩|⟨_,o,ho,he⟩
   ·rw [he];exact hh
   ·rw [he];exact wkO_holds ho hh
 refine ⟨by rw [modAt_len];exact hM.len,fun j u n hu hn=>?_,fun j u n hu hn k hk=>?_,fun j u n hu hn hmu k hk=>?_,fun i' j u v n m hu hn hmu hv hm hij k hk1 hk2=>?_,hM.mod,fun j u n hu hn k hk=>?_⟩
 ·obtain ⟨n0,h1,h2,_⟩:=key j n hn
  exact h2 u (hM.holds j u n0 hu h1)
 ·obtain ⟨n0,h1,_,h3,_⟩:=key j n hn
  exact hM.lt j u n0 hu h1 k (h3 u k hk)
 ·obtain ⟨n0,h1,_,_,h4⟩:=key j n hn
  obtain rfl:=h4 hmu
  exact hM.own j u n hu h1 hmu k hk
 ·obtain ⟨n0,h1,_,_,h4⟩:=key i' n hn
  obtain ⟨m0,g1,_,g3,_⟩:=key j m hm
  obtain rfl:=h4 hmu
  exact hM.sep i' j u v n m0 hu h1 hmu hv g1 hij k hk1 (g3 v k hk2)
 ·obtain ⟨n0,h1,_,h3,_⟩:=key j n hn
  exact hM.rd j u n0 hu h1 k (h3 u k hk)
end
end Go.Proofs.Ytdenmoiaiemokaa
set_option linter.unusedVariables false
set_option linter.unusedSimpArgs false
namespace Go.Proofs.Ytdenmoiaiemokaa
open Go.RowKit
theorem rwNil (t:TypeId) (ks:List Bool):∀ (w:World),Id'.holds (Th.ext (Dk.flat (FL.rw t ks []))) w nilV∧∀ (j:Nat),¬Id'.foot (Th.ext (Dk.flat (FL.rw t ks []))) w nilV j:=fun w=>⟨⟨(fun r hr=>by cases hr),0,Nat.zero_le _,World.ownsRow_nil _ _ _ _⟩,fun j h=>by cases h⟩
theorem vwNil:∀ (w:World),Id'.holds (Th.ext (Dk.vw [true,false,false,false] [])) w nilV∧∀ (j:Nat),¬Id'.foot (Th.ext (Dk.vw [true,false,false,false] [])) w nilV j:=fun w=>⟨⟨by decide,Rs.nil w 4⟩,fun j h=>h.1 rfl⟩
set_option maxRecDepth 100000 in
theorem dentA_w0 (L:List (List UInt8)) (h0:((stO L L.length)).length≤(1000:Nat)) (h1:(dbB (stO L L.length)).length≤(100000:Nat)) (h2:(dbE (stO L L.length) != (0:Int))=true):∃ qs,wayO Id' ([⟨.us (.ext (.shr 1 L.length (tbE L))),false⟩]:Mem Td).length [⟨.us (.ext (.shr 1 L.length (tbE L))),false⟩,⟨.us (.ext (.vw [true,false,false,false] ([]:List Rw))),false⟩] (.tup [.one (.obj 1),.one (.v (.int .i64 4))]) ((runFn (⟨Try.prog,[(58,ctrF Id' C_dblocks hardD),(126,ctrF Id' (wkC (C_eqf (dbB (stO L L.length)) L)) hardD)],[],dkHo,Id'.one,60⟩:Sy Td) [(3,(lpG Id' 46 (hdC (loopsC (bodyOf Try.f61)) 0) 1 [(13,.c (.one (.v (.int .i64 ((0:Nat):Int))))),(4,.c (.one (.obj 1)))] [(0,.c (.one (.obj 0))),(11,.c (.one (.obj 0))),(12,.c (.one (.v (.int .i64 (L.length:Int)))))] [⟨.us (.ext (.shr 1 L.length (tbE L))),false⟩,⟨.us (.ext (.flat (.rw 109 [true,false,false,false] (stO L 0)))),true⟩] (.leaf (.exit 0) [(4,.c (.one (.obj 1)))] [⟨.us (.ext (.shr 1 L.length (tbE L))),false⟩,⟨.us (.ext (.flat (.rw 109 [true,false,false,false] (stO L L.length)))),true⟩]))),(100013,mapG (modAt wkE 1) (⟨Try.prog,[(58,ctrF Id' C_dblocks hardD)],[],dkHo,Id'.one,60⟩:Sy Td) 46 (regO 13 (bodyOf Try.f61)) (drwR 13 (bodyOf Try.f61)))] Try.f61 [.one (.obj 0)] [⟨.us (.ext (.shr 1 L.length (tbE L))),false⟩]).al [true])=some qs∧∀ q∈qs,q:=
 ⟨[Value.int IntKind.i64 (↑L.length:Int)=Value.int IntKind.i64 (↑L.length:Int),Th.ext (Dk.shr 1 L.length (tbE L))=Th.ext (Dk.shr 1 L.length (tbE L)),∀ (w:World),Id'.holds (Th.ext (Dk.flat (FL.rw 109 [true,false,false,false] (stO L 0)))) w nilV∧∀ (j:Nat),¬Id'.foot (Th.ext (Dk.flat (FL.rw 109 [true,false,false,false] (stO L 0)))) w nilV j,Value.int IntKind.i64 (Int.ofNat 0)=Value.int IntKind.i64 (Int.ofNat (0:Nat)),(stO L L.length).length≤(1000:Nat),(dbE (stO L L.length) != (0:Int))=true,(dbE (stO L L.length) != (0:Int))=true,Th.ext (Dk.shr 1 L.length (tbE L))=Th.ext (Dk.shr 1 L.length (tbE L)),∀ (w:World),Id'.holds (Th.ext (Dk.vw [true,false,false,false] [])) w nilV∧∀ (j:Nat),¬Id'.foot (Th.ext (Dk.vw [true,false,false,false] [])) w nilV j,Value.int IntKind.i64 (Int.ofNat 4)=Value.int IntKind.i64 (Int.ofNat 4)],by kernel_rfl,(by refine mcons ?_ (mcons ?_ (mcons ?_ (mcons ?_ (mcons ?_ (mcons ?_ (mcons ?_ (mcons ?_ (mcons ?_ (mcons ?_ mnil)))))))))<;>first|rfl|exact h0|exact h1|exact h2|trivial|(exact rwNil _ _)|(exact vwNil)|(exact ⟨rfl,rfl,rfl⟩))⟩
set_option maxRecDepth 100000 in
theorem dentB_w0 (L:List (List UInt8)) (h0:((stO L L.length)).length≤(1000:Nat)) (h1:(dbB (stO L L.length)).length≤(100000:Nat)) (h2:(dbE (stO L L.length) != (0:Int))=false) (h3:(!decide (dbB (stO L L.length)=L))=true):∃ qs,wayO Id' ([⟨.us (.ext (.shr 1 L.length (tbE L))),false⟩]:Mem Td).length [⟨.us (.ext (.shr 1 L.length (tbE L))),false⟩,⟨.us (.ext (.vw [true,false,false,false] ([]:List Rw))),false⟩] (.tup [.one (.obj 1),.one (.v (.int .i64 4))]) ((runFn (⟨Try.prog,[(58,ctrF Id' C_dblocks hardD),(126,ctrF Id' (wkC (C_eqf (dbB (stO L L.length)) L)) hardD)],[],dkHo,Id'.one,60⟩:Sy Td) [(3,(lpG Id' 46 (hdC (loopsC (bodyOf Try.f61)) 0) 1 [(13,.c (.one (.v (.int .i64 ((0:Nat):Int))))),(4,.c (.one (.obj 1)))] [(0,.c (.one (.obj 0))),(11,.c (.one (.obj 0))),(12,.c (.one (.v (.int .i64 (L.length:Int)))))] [⟨.us (.ext (.shr 1 L.length (tbE L))),false⟩,⟨.us (.ext (.flat (.rw 109 [true,false,false,false] (stO L 0)))),true⟩] (.leaf (.exit 0) [(4,.c (.one (.obj 1)))] [⟨.us (.ext (.shr 1 L.length (tbE L))),false⟩,⟨.us (.ext (.flat (.rw 109 [true,false,false,false] (stO L L.length)))),true⟩]))),(100013,mapG (modAt wkE 1) (⟨Try.prog,[(58,ctrF Id' C_dblocks hardD)],[],dkHo,Id'.one,60⟩:Sy Td) 46 (regO 13 (bodyOf Try.f61)) (drwR 13 (bodyOf Try.f61)))] Try.f61 [.one (.obj 0)] [⟨.us (.ext (.shr 1 L.length (tbE L))),false⟩]).al [false,true])=some qs∧∀ q∈qs,q:=
 ⟨[Value.int IntKind.i64 (↑L.length:Int)=Value.int IntKind.i64 (↑L.length:Int),Th.ext (Dk.shr 1 L.length (tbE L))=Th.ext (Dk.shr 1 L.length (tbE L)),∀ (w:World),Id'.holds (Th.ext (Dk.flat (FL.rw 109 [true,false,false,false] (stO L 0)))) w nilV∧∀ (j:Nat),¬Id'.foot (Th.ext (Dk.flat (FL.rw 109 [true,false,false,false] (stO L 0)))) w nilV j,Value.int IntKind.i64 (Int.ofNat 0)=Value.int IntKind.i64 (Int.ofNat (0:Nat)),(stO L L.length).length≤(1000:Nat),(dbE (stO L L.length) != (0:Int))=false,(1:Nat)=(1:Nat)∧(dbB (stO L L.length)).length=(dbB (stO L L.length)).length∧tbE (dbB (stO L L.length))=tbE (dbB (stO L L.length)),(1:Nat)=(1:Nat)∧L.length=L.length∧tbE L=tbE L,(dbB (stO L L.length)).length≤(100000:Nat),(dbE (stO L L.length) != (0:Int))=false,(!decide (dbB (stO L L.length)=L))=true,Th.ext (Dk.shr 1 L.length (tbE L))=Th.ext (Dk.shr 1 L.length (tbE L)),∀ (w:World),Id'.holds (Th.ext (Dk.vw [true,false,false,false] [])) w nilV∧∀ (j:Nat),¬Id'.foot (Th.ext (Dk.vw [true,false,false,false] [])) w nilV j,Value.int IntKind.i64 (Int.ofNat 4)=Value.int IntKind.i64 (Int.ofNat 4)],by kernel_rfl,(by refine mcons ?_ (mcons ?_ (mcons ?_ (mcons ?_ (mcons ?_ (mcons ?_ (mcons ?_ (mcons ?_ (mcons ?_ (mcons ?_ (mcons ?_ (mcons ?_ (mcons ?_ (mcons ?_ mnil)))))))))))))<;>first|rfl|exact h0|exact h1|exact h2|exact h3|trivial|(exact rwNil _ _)|(exact vwNil)|(exact ⟨rfl,rfl,rfl⟩))⟩
set_option maxRecDepth 100000 in
theorem dentC_w0 (L:List (List UInt8)) (h0:((stO L L.length)).length≤(1000:Nat)) (h1:(dbB (stO L L.length)).length≤(100000:Nat)) (h2:(dbE (stO L L.length) != (0:Int))=false) (h3:(!decide (dbB (stO L L.length)=L))=false):∃ qs,wayO Id' ([⟨.us (.ext (.shr 1 L.length (tbE L))),false⟩]:Mem Td).length [⟨.us (.ext (.shr 1 L.length (tbE L))),false⟩,⟨.us (.ext (.vw [true,false,false,false] (stO L L.length))),false⟩] (.tup [.one (.obj 1),.one (.v (.int .i64 0))]) ((runFn (⟨Try.prog,[(58,ctrF Id' C_dblocks hardD),(126,ctrF Id' (wkC (C_eqf (dbB (stO L L.length)) L)) hardD)],[],dkHo,Id'.one,60⟩:Sy Td) [(3,(lpG Id' 46 (hdC (loopsC (bodyOf Try.f61)) 0) 1 [(13,.c (.one (.v (.int .i64 ((0:Nat):Int))))),(4,.c (.one (.obj 1)))] [(0,.c (.one (.obj 0))),(11,.c (.one (.obj 0))),(12,.c (.one (.v (.int .i64 (L.length:Int)))))] [⟨.us (.ext (.shr 1 L.length (tbE L))),false⟩,⟨.us (.ext (.flat (.rw 109 [true,false,false,false] (stO L 0)))),true⟩] (.leaf (.exit 0) [(4,.c (.one (.obj 1)))] [⟨.us (.ext (.shr 1 L.length (tbE L))),false⟩,⟨.us (.ext (.flat (.rw 109 [true,false,false,false] (stO L L.length)))),true⟩]))),(100013,mapG (modAt wkE 1) (⟨Try.prog,[(58,ctrF Id' C_dblocks hardD)],[],dkHo,Id'.one,60⟩:Sy Td) 46 (regO 13 (bodyOf Try.f61)) (drwR 13 (bodyOf Try.f61)))] Try.f61 [.one (.obj 0)] [⟨.us (.ext (.shr 1 L.length (tbE L))),false⟩]).al [false,false])=some qs∧∀ q∈qs,q:=
 ⟨[Value.int IntKind.i64 (↑L.length:Int)=Value.int IntKind.i64 (↑L.length:Int),Th.ext (Dk.shr 1 L.length (tbE L))=Th.ext (Dk.shr 1 L.length (tbE L)),∀ (w:World),Id'.holds (Th.ext (Dk.flat (FL.rw 109 [true,false,false,false] (stO L 0)))) w nilV∧∀ (j:Nat),¬Id'.foot (Th.ext (Dk.flat (FL.rw 109 [true,false,false,false] (stO L 0)))) w nilV j,Value.int IntKind.i64 (Int.ofNat 0)=Value.int IntKind.i64 (Int.ofNat (0:Nat)),(stO L L.length).length≤(1000:Nat),(dbE (stO L L.length) != (0:Int))=false,(1:Nat)=(1:Nat)∧(dbB (stO L L.length)).length=(dbB (stO L L.length)).length∧tbE (dbB (stO L L.length))=tbE (dbB (stO L L.length)),(1:Nat)=(1:Nat)∧L.length=L.length∧tbE L=tbE L,(dbB (stO L L.length)).length≤(100000:Nat),(dbE (stO L L.length) != (0:Int))=false,(!decide (dbB (stO L L.length)=L))=false,Th.ext (Dk.shr 1 L.length (tbE L))=Th.ext (Dk.shr 1 L.length (tbE L)),Th.ext (Dk.vw [true,false,false,false] (Nat.brecOn.go L.length (stO._f L)).1)=Th.ext (Dk.vw [true,false,false,false] (Nat.brecOn.go L.length (stO._f L)).1),Value.int IntKind.i64 (Int.ofNat 0)=Value.int IntKind.i64 (Int.ofNat 0)],by kernel_rfl,(by refine mcons ?_ (mcons ?_ (mcons ?_ (mcons ?_ (mcons ?_ (mcons ?_ (mcons ?_ (mcons ?_ (mcons ?_ (mcons ?_ (mcons ?_ (mcons ?_ (mcons ?_ (mcons ?_ mnil)))))))))))))<;>first|rfl|exact h0|exact h1|exact h2|exact h3|trivial|(exact rwNil _ _)|(exact vwNil)|(exact ⟨rfl,rfl,rfl⟩))⟩
def deOk (L:List (List UInt8)):Bool:=dbE (stO L L.length)==0&&decide (dbB (stO L L.length)=L)
def deE (L:List (List UInt8)):Int:=bif deOk L then 0 else 4
def deR (L:List (List UInt8)):List Rw:=bif deOk L then (stO L L.length) else []
def C_dents (L:List (List UInt8)):Ctr Td:=fun us sub=>match us,sub with
 |[.one (.obj 0)],[⟨.us (.ext (.shr sz n el)),false⟩]=>some ([sz=1∧n=L.length∧el=tbE L,L.length≤100∧∀ l∈L,l.length≤100000],.tup [.one (.obj 1),.one (.v (.int .i64 (deE L)))],[⟨.us (.ext (.shr sz n el)),false⟩,⟨.us (.ext (.vw [true,false,false,false] (deR L))),false⟩])
 |_,_=>none
theorem blksP_n (R:List Rw) (k:Nat):(blksP R k).length=k:=blksP_len R k
theorem dbB_len (R:List Rw):(dbB R).length≤R.length+1:=by
 unfold dbB
 cases (okP R&&!decide ((R.length:Int)>24)) with
 |false=>exact Nat.zero_le _
 |true=>
  show (blksP R (nbR R)).length≤_
  rw [blksP_n]
  unfold nbR;omega
set_option maxRecDepth 100000 in
theorem C_dents_ok (L:List (List UInt8)):CtrOk Try.prog Id' 61 (C_dents L):=by
 intro us sub ps x sm h hp w e vs hM ha
 unfold C_dents at h
 split at h
 ·rename_i sz n el
  simp only [Option.some.injEq,Prod.mk.injEq] at h
  obtain ⟨rfl,rfl,rfl⟩:=h
  obtain ⟨rfl,rfl,rfl⟩:=hp _ (List.mem_cons_self ..)
  obtain ⟨hL,hw⟩:=hp _ (List.mem_cons_of_mem _ (List.mem_cons_self ..))
  have hs:=stO_len L L.length
  have hb:=dbB_len (stO L L.length)
  cases q1:(dbE (stO L L.length) != (0:Int)) with
  |true=>
   have ho:deOk L=false:=by
    unfold deOk
    rw [bne_iff_ne] at q1
    rw [show (dbE (stO L L.length)==0)=false from by simpa using q1,Bool.false_and]
   unfold deE deR
   rw [ho]
   exact ctr_way (I:=Id') (fun (W0:World) (G:Nat→Prop)=>SyOk.mk2 Try.mixed dkHo_ok (FnsR.cons (R_dblocks) (FnsR.cons ((R_eqf (dbB (stO L L.length)) L)) (FnsR.nil))) EqsOk.nil) rfl Try.func61 (by kernel_rfl) (fun W0 G=>LpsOk.cons (by kernel_rfl) (eou_lp L (by omega) hw _ rfl) (LpsOk.cons (by kernel_rfl) (mapG_sound (id:=13) ((fun (W0:World) (G:Nat→Prop)=>SyOk.mk2 Try.mixed dkHo_ok (FnsR.cons (R_dblocks) (FnsR.nil)) EqsOk.nil) W0 G) rfl (fun w e mem h=>wk_ok (W0:=W0) (G:=G) 1 w e mem h)) (LpsOk.nil _))) (cs:=[true]) (by kernel_rfl) (dentA_w0 L (by omega) (by omega) q1) w e vs hM ha
  |false=>
   have q1':(dbE (stO L L.length)==0)=true:=by simpa using q1
   cases q2:(!decide (dbB (stO L L.length)=L)) with
   |true=>
    have ho:deOk L=false:=by
     unfold deOk
     rw [show decide (dbB (stO L L.length)=L)=false from by simpa using q2,Bool.and_false]
    unfold deE deR
    rw [ho]
    exact ctr_way (I:=Id') (fun (W0:World) (G:Nat→Prop)=>SyOk.mk2 Try.mixed dkHo_ok (FnsR.cons (R_dblocks) (FnsR.cons ((R_eqf (dbB (stO L L.length)) L)) (FnsR.nil))) EqsOk.nil) rfl Try.func61 (by kernel_rfl) (fun W0 G=>LpsOk.cons (by kernel_rfl) (eou_lp L (by omega) hw _ rfl) (LpsOk.cons (by kernel_rfl) (mapG_sound (id:=13) ((fun (W0:World) (G:Nat→Prop)=>SyOk.mk2 Try.mixed dkHo_ok (FnsR.cons (R_dblocks) (FnsR.nil)) EqsOk.nil) W0 G) rfl (fun w e mem h=>wk_ok (W0:=W0) (G:=G) 1 w e mem h)) (LpsOk.nil _))) (cs:=[false,true]) (by kernel_rfl) (dentB_w0 L (by omega) (by omega) q1 q2) w e vs hM ha
   |false=>
    have ho:deOk L=true:=by
     unfold deOk
     rw [q1',show decide (dbB (stO L L.length)=L)=true from by simpa using q2];rfl
    unfold deE deR
    rw [ho]
    exact ctr_way (I:=Id') (fun (W0:World) (G:Nat→Prop)=>SyOk.mk2 Try.mixed dkHo_ok (FnsR.cons (R_dblocks) (FnsR.cons ((R_eqf (dbB (stO L L.length)) L)) (FnsR.nil))) EqsOk.nil) rfl Try.func61 (by kernel_rfl) (fun W0 G=>LpsOk.cons (by kernel_rfl) (eou_lp L (by omega) hw _ rfl) (LpsOk.cons (by kernel_rfl) (mapG_sound (id:=13) ((fun (W0:World) (G:Nat→Prop)=>SyOk.mk2 Try.mixed dkHo_ok (FnsR.cons (R_dblocks) (FnsR.nil)) EqsOk.nil) W0 G) rfl (fun w e mem h=>wk_ok (W0:=W0) (G:=G) 1 w e mem h)) (LpsOk.nil _))) (cs:=[false,false]) (by kernel_rfl) (dentC_w0 L (by omega) (by omega) q1 q2) w e vs hM ha
 ·cases h
end Go.Proofs.Ytdenmoiaiemokaa
set_option linter.unusedVariables false
set_option linter.unusedSimpArgs false
namespace Go.Proofs.Ytdenmoiaiemokaa
open Go.RowKit
def RRc (w:World) (N:Nat→Prop) (o xb:Nat) (bs:List Bool) (err:Int):Prop:=
 ∃ ao cap,w.cell? ⟨xb,o,none⟩=some (.slice ao bs.length cap)∧(w.cell? ⟨xb,o+1,none⟩=some (.int .i64 err)∧w.frozen? ⟨xb,o,none⟩=false∧w.frozen? ⟨xb,o+1,none⟩=false)∧Bs w (.slice ao bs.length cap) (bbs bs)∧∀ k,(Value.slice ao bs.length cap).ownBlock=some k→k≠xb∧N k
section
variable {w w':World} {N:Nat→Prop} {o xb:Nat} {bs:List Bool} {err:Int}
theorem RRc.c1 (h:RRc w N o xb bs err):w.cell? ⟨xb,o+1,none⟩=some (.int .i64 err):=by
 obtain ⟨ao,cap,_,h2,_⟩:=h
 exact h2.1
theorem RRc.f1 (h:RRc w N o xb bs err):w.frozen? ⟨xb,o+1,none⟩=false:=by
 obtain ⟨ao,cap,_,h2,_⟩:=h
 exact h2.2.2
theorem RRc.setErr (h:RRc w N o xb bs err) (e:Int):RRc (w.setCell ⟨xb,o+1,none⟩ (.int .i64 e)) N o xb bs e:=by
 obtain ⟨ao,cap,h1,⟨h2,f0,f1⟩,h3,h4⟩:=h
 refine ⟨ao,cap,?_,⟨World.cell?_setCell_same' _ _ _ (by rw [h2];rfl),by simp [f0],by simp [f1]⟩,h3.mod (Mod.setCell (F:=fun k=>k=xb) (p:=⟨xb,o+1,none⟩) (Mod.refl _ w) (fun _=>rfl) _) fun k hk _ e=>(h4 k hk).1 e,h4⟩
 rw [World.cell?_setCell_other (h:=by intro hh;injection hh with _ h2 _;omega)]
 exact h1
end
theorem RRc.drop {w:World} {N:Nat→Prop} {o xb p cap cap' n:Nat} {bs:List Bool} {ao ao':Option Addr} (h1:w.cell? ⟨xb,o,none⟩=some (.slice ao p cap)) (hc1:w.cell? ⟨xb,o+1,none⟩=some (.int .i64 0)) (hf:w.frozen? ⟨xb,o,none⟩=false∧w.frozen? ⟨xb,o+1,none⟩=false) (h3:Bs w (.slice ao p cap) (bbs bs)) (h4:∀ k,(Value.slice ao p cap).ownBlock=some k→k≠xb∧N k)
  (hp:p=bs.length) (hn:n≤p) (hc:p - n≤cap') (hcm:cap'≤9223372036854775807) (hnone:ao'=none→cap'=0) (hao:∀ a',ao'=some a'→n<p→∃ a,ao=some a∧a'=a.add n) (hob:∀ k,ao'.map (·.block)=some k→ao.map (·.block)=some k):
  RRc (w.setCell ⟨xb,o,none⟩ (.slice ao' (p - n) cap')) N o xb (bs.drop n) 0∧Mod (fun k=>k=xb) w (w.setCell ⟨xb,o,none⟩ (.slice ao' (p - n) cap')):=by
 have hm:=Mod.setCell (F:=fun k=>k=xb) (p:=⟨xb,o,none⟩) (Mod.refl _ w) (fun _=>rfl) (.slice ao' (p - n) cap')
 have hl:(bs.drop n).length=p - n:=by rw [List.length_drop,hp]
 have h4':∀ k,(Value.slice ao' (p - n) cap').ownBlock=some k→k≠xb∧N k:=fun k hk=>h4 k (by rw [ownBlock_slice] at hk ⊢;exact hob k hk)
 refine ⟨⟨ao',cap',?_,⟨?_,by simp [hf.1],by simp [hf.2]⟩,?_,?_⟩,hm⟩
 ·rw [hl];exact World.cell?_setCell_same' _ _ _ (by rw [h1];rfl)
 ·rw [World.cell?_setCell_other (h:=by intro hh;injection hh with _ h2 _;omega)]
  exact hc1
 ·rw [hl]
  have h5:Rs w 1 (.slice ao' (p - n) cap') (p - n) ((((bbs bs).map bv).drop (n * 1)).take ((p - n) * 1)):=by
   have h6:Rs w 1 (.slice ao p cap) p ((bbs bs).map bv):=by unfold Bs at h3;rwa [bbs_length,←hp] at h3
   exact Rs.cut h6 hn (Nat.le_refl _) hc (by simpa [maxLen] using hcm) hnone fun a' ha hk=>by
    obtain ⟨a,e1,e2⟩:=hao a' ha hk
    exact ⟨a,e1,by rw [Nat.mul_one];exact e2⟩
  have e:(((bbs bs).map bv).drop (n * 1)).take ((p - n) * 1)=(bbs (bs.drop n)).map bv:=by
   rw [Nat.mul_one,Nat.mul_one,List.take_of_length_le (by rw [List.length_drop,List.length_map,bbs_length];omega)]
   unfold bbs
   rw [List.map_drop,List.map_drop]
  rw [e] at h5
  have h7:Bs w (.slice ao' (p - n) cap') (bbs (bs.drop n)):=by unfold Bs;rw [bbs_length,hl];exact h5
  exact h7.mod hm fun k hk _ e=>(h4' k hk).1 e
 ·rw [hl];exact h4'
set_option maxHeartbeats 2000000 in
theorem rcget_ok (xb o:Nat) (N:Nat→Prop) (bs:List Bool) (n:Nat) (w:World) (h:RRc w N o xb bs 0) (hn:n≤64) (hf:n≤bs.length):
  Calls Try.prog 129 #[.pointer (some ⟨xb,o,none⟩),.int .i64 n] w fun e w'=>e=.returned (.int .u64 (val (bs.take n):Int))∧RRc w' N o xb (bs.drop n) 0∧Mod (fun k=>k=xb) w w':=by
 have c1:=h.c1
 have H:=Lib.hid h
 obtain ⟨ao,cap,h1,h2,h3,h4⟩:=h
 obtain ⟨p,hp⟩:∃ p,p=bs.length:=⟨_,rfl⟩
 have c0:w.cell? ⟨xb,o,none⟩=some (.slice ao p cap):=by rw [h1,hp]
 obtain ⟨hc1,f0,f1⟩:=h2
 rw [← hp] at h1 h3 h4 hf
 have h3':=h3
 obtain ⟨ao2,cap2,he,r1,r2,r3,r4⟩:=h3'.open
 rw [bbs_length,←hp] at he r1 r4
 simp only [Value.slice.injEq] at he
 obtain ⟨rfl,_,rfl⟩:=he
 have H1:=Lib.hid h1
 have H3:=Lib.hid h3
 have H4:=Lib.hid h4
 have HP:=Lib.hid hp
 have HC1:=Lib.hid hc1
 have HF01:Hid (w.frozen? ⟨xb,o,none⟩=false∧w.frozen? ⟨xb,o+1,none⟩=false):=Lib.hid ⟨f0,f1⟩
 have HR3:=Lib.hid r3
 clear h1 hc1 h3 h3' h4 hp r4 r3
 go_enter Try.func129,Try.ntmps129
 go_wp2_with fail
 have htk:Bs w (.slice ao n cap) (bbs (bs.take n)):=by
  have:=Bs.take H3.out hf
  unfold bbs at this ⊢
  rwa [List.map_take]
 have HNUM:=Lib.hid (rnum_c _ (bs.take n) w htk (by rw [List.length_take];omega))
 clear htk
 refine HNUM.out.mono ?_
 rintro e w1 ⟨rfl,rfl⟩
 have HF:=Lib.hid hf
 have HR1:=Lib.hid r1
 have HR2:=Lib.hid r2
 clear r1 r2
 go_wp2_with fail
 all_goals
  go_ret
  have hf:=HF.out
  have hr1:=HR1.out
  have hr2:=HR2.out
 ·have hd:=RRc.drop (ao':=ao) (cap':=0) (n:=n) H1.out HC1.out HF01.out H3.out H4.out HP.out hf (by omega) (by decide) (fun _=>rfl) (fun a' _ hk=>by omega) (fun k hk=>hk)
  exact ⟨rfl,hd.1,hd.2⟩
 ·have hd:=RRc.drop (ao':=ao.map fun x=>x.add n) (cap':=cap - n) (n:=n) H1.out HC1.out HF01.out H3.out H4.out HP.out hf (by omega) (by omega) (fun h=>by
   have h0:ao=none:=by cases ao with|none=>rfl|some a=>cases h
   have:=HR3.out h0
   omega) (fun a' ha _=>by
   cases ao with
   |none=>cases ha
   |some a=>simp only [Option.map_some,Option.some.injEq] at ha;exact ⟨a,rfl,ha.symm⟩) (fun k hk=>by
   cases ao with
   |none=>cases hk
   |some a=>simpa [add_block] using hk)
  exact ⟨rfl,hd.1,hd.2⟩
set_option maxHeartbeats 1000000 in
theorem rcget_c (xb o:Nat) (N:Nat→Prop) (bs:List Bool) (err n:Int) (w:World) (h:RRc w N o xb bs err) (hl:bs.length≤1000000):
  Calls Try.prog 129 #[.pointer (some ⟨xb,o,none⟩),.int .i64 n] w fun e w'=>e=.returned (.int .u64 (rgetV bs err n:Int))∧RRc w' N o xb (rgetL bs err n) (rgetE bs err n)∧Mod (fun k=>k=xb) w w':=by
 by_cases hok:rgetOk bs err n
 ·have hok':=hok
  obtain ⟨h0,h1,h2,h3⟩:=hok
  subst h0
  obtain ⟨m,rfl⟩:=Int.eq_ofNat_of_zero_le h1
  rw [rgetV,rgetL,rgetE,if_pos hok',if_pos hok',if_neg (by simp),if_neg (by omega),if_neg (by omega),Int.toNat_natCast]
  exact rcget_ok xb o N bs m w h (by omega) (by omega)
 ·rw [rgetV,rgetL,if_neg hok,if_neg hok]
  have c1:=h.c1
  have f1:=h.f1
  have H:=Lib.hid h
  by_cases h0:err=0
  ·subst h0
   by_cases h1:n<0∨64<n
   ·rw [rgetE,if_neg (by simp),if_pos h1]
    clear h hok
    rcases h1 with h1|h1
    all_goals
     go_enter Try.func129,Try.ntmps129
     go_wp2
     go_ret
     exact ⟨rfl,H.out.setErr 2,Mod.setCell (F:=fun k=>k=xb) (p:=⟨xb,o+1,none⟩) (Mod.refl _ w) (fun _=>rfl) _⟩
   ·have h3:(bs.length:Int)<n:=by unfold rgetOk at hok;omega
    rw [rgetE,if_neg (by simp),if_neg h1,if_pos h3]
    obtain ⟨ao,cap,g1,g2,g3,g4⟩:=h
    obtain ⟨p,hp⟩:∃ p,p=bs.length:=⟨_,rfl⟩
    have c0:w.cell? ⟨xb,o,none⟩=some (.slice ao p cap):=by rw [g1,hp]
    rw [← hp] at h3
    have hn0:0≤n:=by omega
    have hn1:n≤64:=by omega
    clear hok g1 g2 g3 g4 hp h1
    go_enter Try.func129,Try.ntmps129
    go_wp2
    go_ret
    exact ⟨rfl,H.out.setErr 3,Mod.setCell (F:=fun k=>k=xb) (p:=⟨xb,o+1,none⟩) (Mod.refl _ w) (fun _=>rfl) _⟩
  ·rw [rgetE,if_pos h0]
   have hb:(err != 0)=true:=by simpa using h0
   clear h hok h0
   go_enter Try.func129,Try.ntmps129
   go_wp2
   go_ret
   exact ⟨rfl,H.out,Mod.refl _ w⟩
end Go.Proofs.Ytdenmoiaiemokaa
set_option linter.unusedVariables false
set_option linter.unusedSimpArgs false
namespace Go.Proofs.Ytdenmoiaiemokaa
open Go.RowKit
theorem rcgetS (s:RS) (xb o:Nat) (N:Nat→Prop) (n:Int) (w:World) (h:RRc w N o xb ((bitsAll s.l).drop s.at') s.err) (hl:s.l.length≤100000) (ha:s.at'≤8 * s.l.length):
  Calls Try.prog 129 #[.pointer (some ⟨xb,o,none⟩),.int .i64 n] w fun e w'=>e=.returned (.int .u64 (s.num n:Int))∧RRc w' N o xb ((bitsAll (s.get n).l).drop (s.get n).at') (s.get n).err∧Mod (fun k=>k=xb) w w':=by
 obtain ⟨g1,g2,g3⟩:=getV_eq s.l s.at' s.err n ha
 have:=rcget_c xb o N _ s.err n w h (by rw [List.length_drop,bitsAll_length];omega)
 rw [g1,g2,g3] at this
 exact this
section
variable {β:Type} {I:ObI β} {W0:World} {G:Nat→Prop} {w w':World} {E:Env} {mem:Mem β}
theorem MemOk.turnV (h:MemOk W0 G I w E mem) {i j:Nat} {u uj x:Value} {o oj nb nx:Ob β} (hij:i≠j) (hu:E[i]? =some u) (hn:mem[i]? =some ⟨o,true⟩) (huj:E[j]? =some uj) (hnj:mem[j]? =some ⟨oj,false⟩)
  (hm:Mod (fun k=>Own I w u o k) w w') (hi:Holds I (E++[x]) w' u true nb) (fi:∀ k,Foot I w' u nb k→Foot I w u o k) (oi:∀ k,Own I w' u nb k→Own I w u o k) (hx:Holds I (E++[x]) w' x false nx) (fx:∀ k,Foot I w' x nx k→Foot I w uj oj k):
  MemOk W0 G I w' (E++[x]) (mem.set i ⟨nb,true⟩++[⟨nx,false⟩]):=by
 have hlen:=h.len
 have li:=(List.getElem?_eq_some_iff.1 hn).1
 have lj:=(List.getElem?_eq_some_iff.1 hnj).1
 have hM:∀ (a:Nat) (n:En β),(mem.set i ⟨nb,true⟩++[⟨nx,false⟩])[a]? =some n→(a=i∧n=⟨nb,true⟩)∨(a=mem.length∧n=⟨nx,false⟩)∨(a≠i∧a<mem.length∧mem[a]? =some n):=fun a n ha=>by
  rcases Nat.lt_or_ge a mem.length with hl|hl
  ·rw [List.getElem?_append_left (by simpa using hl)] at ha
   by_cases e2:a=i
   ·subst e2
    rw [List.getElem?_set_self hl] at ha
    cases ha;exact .inl ⟨rfl,rfl⟩
   ·rw [List.getElem?_set_ne (fun e=>e2 e.symm)] at ha
    exact .inr (.inr ⟨e2,hl,ha⟩)
  ·rw [List.getElem?_append_right (by simpa using hl)] at ha
   have h0:a - (mem.set i ⟨nb,true⟩).length=0:=by
    rcases Nat.eq_zero_or_pos (a - (mem.set i ⟨nb,true⟩).length) with h0|h0
    ·exact h0
    ·rw [List.getElem?_eq_none (by simp at h0 ⊢;omega)] at ha;cases ha
   rw [h0] at ha
   simp at ha h0
   exact .inr (.inl ⟨by omega,ha.symm⟩)
 have hE:∀ (a:Nat) (v:Value),(E++[x])[a]? =some v→(a<mem.length∧E[a]? =some v)∨(a=mem.length∧v=x):=fun a v ha=>by
  rcases Nat.lt_or_ge a E.length with hl|hl
  ·rw [List.getElem?_append_left hl] at ha;exact .inl ⟨by omega,ha⟩
  ·rw [List.getElem?_append_right hl] at ha
   have h0:a - E.length=0:=by
    rcases Nat.eq_zero_or_pos (a - E.length) with h0|h0
    ·exact h0
    ·rw [List.getElem?_eq_none (by simp at h0 ⊢;omega)] at ha;cases ha
   rw [h0] at ha
   simp at ha
   exact .inr ⟨by omega,ha.symm⟩
 -- what each was
 have key:∀ (a:Nat) (v:Value) (n:En β),(E++[x])[a]? =some v→(mem.set i ⟨nb,true⟩++[⟨nx,false⟩])[a]? =some n→Holds I (E++[x]) w' v n.mu n.ob∧
   ∃ a0 v0 n0,((a=mem.length∧a0=j)∨(a<mem.length∧a0=a))∧E[a0]? =some v0∧mem[a0]? =some n0∧n0.mu=n.mu∧(∀ k,Foot I w' v n.ob k→Foot I w v0 n0.ob k)∧(n.mu=true→∀ k,Own I w' v n.ob k→Own I w v0 n0.ob k):=fun a v n hv hna=>by
  rcases hM a n hna with ⟨rfl,rfl⟩|⟨rfl,rfl⟩|⟨e1,e3,e4⟩
  ·rcases hE _ v hv with ⟨_,h1⟩|⟨h1,_⟩
   ·rw [hu] at h1;cases h1
    exact ⟨hi,_,u,_,.inr ⟨li,rfl⟩,hu,hn,rfl,fi,fun _=>oi⟩
   ·omega
  ·rcases hE _ v hv with ⟨h1,_⟩|⟨_,rfl⟩
   ·omega
   ·exact ⟨hx,j,uj,_,.inl ⟨rfl,rfl⟩,huj,hnj,rfl,fx,fun h=>by cases h⟩
  ·rcases hE _ v hv with ⟨_,h1⟩|⟨h1,_⟩
   ·have hd:∀ k,Foot I w v n.ob k→¬ Own I w u o k:=fun k hk hF=>h.sep i a u v _ n hu hn rfl h1 e4 (fun e=>e1 e.symm) k hF hk
    have st:=(h.holds a v n h1 e4).stay hm hd
    have so:=(h.holds a v n h1 e4).stayO hm hd
    exact ⟨st.1.mono (Grows.push E x),a,v,n,.inr ⟨e3,rfl⟩,h1,e4,rfl,st.2,fun _=>so⟩
   ·omega
 refine ⟨by simp [hlen],fun a v n hv hna=>(key a v n hv hna).1,fun a v n hv hna k hk=>?_,fun a v n hv hna hmu k hk=>?_,fun a b v v' n m hv hna hmu hv' hnb hab k hk hk'=>?_,?_,fun a v n hv hna k hk=>?_⟩
 ·obtain ⟨_,a0,v0,n0,_,q1,q2,q3,q4,q5⟩:=key a v n hv hna
  exact Nat.lt_of_lt_of_le (h.lt a0 v0 n0 q1 q2 k (q4 k hk)) hm.size
 ·obtain ⟨_,a0,v0,n0,_,q1,q2,q3,q4,q5⟩:=key a v n hv hna
  exact h.own a0 v0 n0 q1 q2 (q3.trans hmu) k (q5 hmu k hk)
 ·obtain ⟨_,a0,v0,n0,r1,q1,q2,q3,q4,q5⟩:=key a v n hv hna
  obtain ⟨_,b0,v1,n1,r2,p1,p2,p3,p4,p5⟩:=key b v' m hv' hnb
  refine h.sep a0 b0 v0 v1 n0 n1 q1 q2 (q3.trans hmu) p1 p2 (fun e=>?_) k (q5 hmu k hk) (p4 k hk')
  have hn0:=q3.trans hmu
  rcases r1 with ⟨r1,r1'⟩|⟨r1,r1'⟩
  ·subst r1'
   rw [hnj] at q2;cases q2;cases hn0
  ·rcases r2 with ⟨r2,r2'⟩|⟨r2,r2'⟩
   ·subst r2'
    rw [e,hnj] at q2;cases q2;cases hn0
   ·exact hab (r1'.symm.trans (e.trans r2'))
 ·exact Mod.trans h.mod hm fun k hk hl=>by
   rcases h.own i u _ hu hn rfl k hk with h1|h1
   ·omega
   ·exact h1
 ·obtain ⟨_,a0,v0,n0,_,q1,q2,q3,q4,q5⟩:=key a v n hv hna
  exact h.rd a0 v0 n0 q1 q2 k (q4 k hk)
end
def C_rof:Ctr Td:=fun us sub=>match us,sub with
 |[.one (.obj 0)],[⟨.us (.byt l),false⟩]=>some ([l.length≤100000],.c (.one (.obj 1)),[⟨.us (.byt l),false⟩,⟨.us (.rr (RS.new l)),false⟩])
 |_,_=>none
theorem C_rof_ok:CtrOk Try.prog Id' 128 C_rof:=by
 intro us sub ps x sm h hp w e vs hM ha
 unfold C_rof at h
 split at h
 ·rename_i l
  simp only [Option.some.injEq,Prod.mk.injEq] at h
  obtain ⟨rfl,rfl,rfl⟩:=h
  have h0:l.length≤100000:=hp _ (List.mem_cons_self ..)
  obtain ⟨u0,rfl,a0⟩:=allC1 ha
  have hE:e[0]? =some u0:=is_one a0
  have hb:Bs w u0 l:=hM.holds 0 u0 _ hE rfl
  refine (rof_c u0 l w hb h0).mono fun x w' ⟨ao,cap,g1,g2,g3⟩=>⟨_,e++[.slice ao (8 * l.length) cap],g1,Grows.push e _,?_,?_⟩
  ·have hl:e.length=1:=hM.len
   show (e++[_])[1]? =_
   rw [List.getElem?_append_right (by omega),hl];rfl
  ·refine hM.push g2 _ ⟨.us (.rr (RS.new l)),false⟩ ⟨?_,fun k hk=>(owns_block g3 hk).2,h0,Nat.zero_le _⟩ fun k hk=>owns_block g3 hk
   show Bs w' _ (bbs ((bitsAll l).drop 0))
   rw [List.drop_zero]
   have hl8:(bbs (bitsAll l)).length=8 * l.length:=by rw [bbs_length,bitsAll_length]
   unfold Bs
   rw [hl8];exact Rs.of_owns g3
 ·cases h
theorem R_rof:RowOk Try.prog Id' hardD 128 (ctrF Id' C_rof hardD):=ctrF_ok Try.call128 C_rof_ok
theorem rd2_is {w:World} {e:Env} {b1:Bool} {s:RS} {W0:World} {G:Nat→Prop} (hM:MemOk W0 G Id' w e [⟨.bx [.obj 1,.v (.int .i64 s.err)],true⟩,⟨.us (.rr s),false⟩]) {u:Value} (hu:e[0]? =some u):
  ∃ b o uj,u=.pointer (some ⟨b,o,none⟩)∧e[1]? =some uj∧RRc w (fun k=>uj.ownBlock=some k) o b ((bitsAll s.l).drop s.at') s.err∧(∀ k,uj.ownBlock=some k→k<w.heap.size)∧s.l.length≤100000∧s.at'≤8 * s.l.length∧
   ∀ w' s',RRc w' (fun k=>uj.ownBlock=some k) o b ((bitsAll s'.l).drop s'.at') s'.err→Mod (fun k=>k=b) w w'→s'.l.length≤100000→s'.at'≤8 * s'.l.length→
    ∃ x,MemOk W0 G Id' w' (e++[x]) [⟨.bx [.obj 2,.v (.int .i64 s'.err)],true⟩,⟨.us (.rr s),false⟩,⟨.us (.rr s'),false⟩]:=by
 obtain ⟨b,o,rfl,hc⟩:=hM.holds 0 u _ hu rfl
 obtain ⟨x0,c0,hx0,f0⟩:=hc 0 _ rfl
 obtain ⟨x1,c1,hx1,f1⟩:=hc 1 _ rfl
 have hx1:x1=.int .i64 s.err:=hx1
 subst hx1
 have hx0:e[1]? =some x0:=hx0
 obtain ⟨hb,hown,hl,ha⟩:=hM.holds 1 x0 _ hx0 rfl
 have hne:∀ k,x0.ownBlock=some k→k≠b:=fun k hk hkb=>by
  subst hkb
  exact hM.sep 0 1 _ _ _ _ hu rfl rfl hx0 rfl (by decide) k ⟨k,o,rfl,rfl⟩ hk
 obtain ⟨_,ao,cap,rfl,_⟩:=id hb
 refine ⟨b,o,_,rfl,hx0,⟨ao,cap,?_,⟨c1,f0 rfl,f1 rfl⟩,?_,fun k hk=>?_⟩,hown,hl,ha,fun w' s' hR hm hl' ha'=>?_⟩
 ·rw [bbs_length] at c0;exact c0
 ·rw [bbs_length] at hb;exact hb
 ·have hk':(Value.slice ao (bbs ((bitsAll s.l).drop s.at')).length cap).ownBlock=some k:=by rw [ownBlock_slice] at hk ⊢;exact hk
  exact ⟨hne k hk',hk'⟩
 ·obtain ⟨ao',cap',d0,⟨d1,g0,g1⟩,hB,hO⟩:=hR
  have hsz:e.length=2:=hM.len
  refine ⟨.slice ao' ((bitsAll s'.l).drop s'.at').length cap',hM.turnV (i:=0) (j:=1) (by decide) hu rfl hx0 rfl (nb:=.bx [.obj 2,.v (.int .i64 s'.err)]) (nx:=.us (.rr s')) (Mod.trans (G:=fun k=>k=b) (Mod.refl _ w) hm fun k hk _=>⟨b,o,rfl,hk⟩) ?_ (fun k hk=>hk) (fun k hk=>hk) ⟨hB,fun k hk=>?_,hl',ha'⟩ fun k hk=>(hO k hk).2⟩
  ·refine ⟨b,o,rfl,fun t p hp=>?_⟩
   match t,hp with
   |0,hp=>
    simp at hp;subst hp
    refine ⟨_,d0,?_,fun _=>g0⟩
    show (e++[_])[2]? =_
    rw [← hsz,List.getElem?_append_right (Nat.le_refl _)];simp
   |1,hp=>
    simp at hp;subst hp
    exact ⟨_,d1,rfl,fun _=>g1⟩
   |t+2,hp=>simp at hp
  ·exact Nat.lt_of_lt_of_le (hown k (hO k hk).2) hm.size
def C_rget:Ctr Td:=fun us sub=>match us,sub with
 |[.one (.ptr 0 0),.one (.v (.int .i64 n))],[⟨.bx [.obj 1,.v (.int .i64 e0)],true⟩,⟨.us (.rr s),false⟩]=>some ([e0=s.err],.c (.one (.v (.int .u64 (s.num n:Int)))),[⟨.bx [.obj 2,.v (.int .i64 (s.get n).err)],true⟩,⟨.us (.rr s),false⟩,⟨.us (.rr (s.get n)),false⟩])
 |_,_=>none
theorem C_rget_ok:CtrOk Try.prog Id' 129 C_rget:=by
 intro us sub ps x sm h hp w e vs hM ha
 unfold C_rget at h
 split at h
 ·rename_i n e0 s
  simp only [Option.some.injEq,Prod.mk.injEq] at h
  obtain ⟨rfl,rfl,rfl⟩:=h
  obtain rfl:e0=s.err:=hp _ (List.mem_cons_self ..)
  obtain ⟨u0,u1,rfl,a0,a1⟩:=allC2 ha
  obtain ⟨b0,o0,q1,q2⟩:=is_one a0
  have hn:u1=.int .i64 n:=is_one a1
  subst hn
  obtain ⟨b,o,uj,p1,p2,hR,_,hl,hat,hto⟩:=rd2_is (b1:=true) hM q1
  cases p1
  rw [Nat.add_zero] at q2
  subst q2
  refine (rcgetS s b0 o0 _ n w hR hl hat).mono fun x w' ⟨g1,g2,g3⟩=>?_
  obtain ⟨x',hM'⟩:=hto w' (s.get n) g2 g3 hl (RS.at_get hat n)
  exact ⟨_,_,g1,Grows.push e x',rfl,hM'⟩
 ·cases h
theorem R_rget:RowOk Try.prog Id' hardD 129 (ctrF Id' C_rget hardD):=ctrF_ok Try.call129 C_rget_ok
end Go.Proofs.Ytdenmoiaiemokaa
set_option linter.unusedVariables false
set_option linter.unusedSimpArgs false
namespace Go.Proofs.Ytdenmoiaiemokaa
open Go.RowKit
theorem gL_snoc:∀ (n:Nat) (s:RS),gL (n+1) s=gL n s++[gU (gS n s)]
 |0,s=>rfl
 |n+1,s=>by
  show gU s::gL (n+1) (s.get 8)=(gU s::gL n (s.get 8))++[gU (gS n (s.get 8))]
  rw [gL_snoc n (s.get 8)];rfl
theorem gS_snoc:∀ (n:Nat) (s:RS),gS (n+1) s=(gS n s).get 8
 |0,s=>rfl
 |n+1,s=>gS_snoc n (s.get 8)
theorem gL_len:∀ (n:Nat) (s:RS),(gL n s).length=n
 |0,s=>rfl
 |n+1,s=>by simp [gL,gL_len n (s.get 8)]
set_option maxRecDepth 100000 in
theorem rei_n (L:List (List UInt8)) (b:List UInt8) (X:List Rw) (ea eb ec:Int) (S S2:List UInt8) (q q2:RS) (i i2:Int) (k:Nat) (f:Nat→Value) (h0:decide (i<(16:Int))=true) (h1:IntKind.i64.wrap (i+1)=i2) (h2:S.length+1≤1000000) (h3:S++[gU q]=S2) (h4:q.get 8=q2):∃ qs,alN Id' 13 [(12,.c (.one (.v (.int .i64 i2)))),(11,.c (.one (.obj 13)))] [⟨.us (.ext (.shr 1 L.length (tbE L))),false⟩,⟨.dead,true⟩,⟨.dead,true⟩,⟨.dead,true⟩,⟨.us (.rr (RS.new b)),false⟩,⟨.us (.ext (.flat (.rw 109 [true,false,false,false] X))),true⟩,⟨.dead,true⟩,⟨.bx [.obj 14,.v (.int .i64 q2.err)],true⟩,⟨.dead,true⟩,⟨.dead,true⟩,⟨.dead,true⟩,⟨.dead,true⟩,⟨.blk [.v (.string ⟨#[]⟩),.v (.int .i64 ea),.v (.int .i64 eb),.v (.int .i64 ec)],true⟩,⟨.us (.own S2),true⟩,⟨.us (.rr q2),false⟩] ((symC (⟨Try.prog,[(129,ctrF Id' C_rget hardD)],[],dkHo,Id'.one,60⟩:Sy Td) [] 113 (hdC (loopsC (bodyOf Try.f62)) 2) ⟨[(12,.c (.one (.v (.int .i64 i)))),(11,.c (.one (.obj 13)))]++anyB' (writesC (hdC (loopsC (bodyOf Try.f62)) 2)) ([(8,.c (.one (.ptr 7 0)))]++tabV f 113),[⟨.us (.ext (.shr 1 L.length (tbE L))),false⟩,⟨.dead,true⟩,⟨.dead,true⟩,⟨.dead,true⟩,⟨.us (.rr (RS.new b)),false⟩,⟨.us (.ext (.flat (.rw 109 [true,false,false,false] X))),true⟩,⟨.dead,true⟩,⟨.bx [.obj 14,.v (.int .i64 q.err)],true⟩,⟨.dead,true⟩,⟨.dead,true⟩,⟨.dead,true⟩,⟨.dead,true⟩,⟨.blk [.v (.string ⟨#[]⟩),.v (.int .i64 ea),.v (.int .i64 eb),.v (.int .i64 ec)],true⟩,⟨.us (.own S),true⟩,⟨.us (.rr q),false⟩],0⟩).al [true])=some qs∧∀ q∈qs,q:=
 ⟨[decide (i<(16:Int))=true,S.length+[gU q].length≤1000000,(0:Int)≤IntKind.u8.wrap (↑(q.num (8:Int)):Int)∧IntKind.u8.wrap (↑(q.num (8:Int)):Int)<(256:Int),q.err=q.err,Th.ext (Dk.shr 1 L.length (tbE L))=Th.ext (Dk.shr 1 L.length (tbE L)),(Th.rr (RS.new b):Td)=Th.rr (RS.new b),Th.ext (Dk.flat (FL.rw 109 [true,false,false,false] X))=Th.ext (Dk.flat (FL.rw 109 [true,false,false,false] X)),Value.int IntKind.i64 (q.get (8:Int)).err=Value.int IntKind.i64 q2.err,Value.string (ByteArray.mk #[])=Value.string (ByteArray.mk #[]),Value.int IntKind.i64 ea=Value.int IntKind.i64 ea,Value.int IntKind.i64 eb=Value.int IntKind.i64 eb,Value.int IntKind.i64 ec=Value.int IntKind.i64 ec,(Th.own (S++[gU q]):Td)=Th.own S2,(Th.rr (q.get 8):Td)=Th.rr q2,Value.int IntKind.i64 (IntKind.i64.wrap (i+(1:Int)))=Value.int IntKind.i64 i2],by kernel_rfl,(by refine mcons ?_ (mcons ?_ (mcons ?_ (mcons ?_ (mcons ?_ (mcons ?_ (mcons ?_ (mcons ?_ (mcons ?_ (mcons ?_ (mcons ?_ (mcons ?_ (mcons ?_ (mcons ?_ (mcons ?_ mnil))))))))))))))<;>first|rfl|exact h0|exact h1|exact h2|exact h3|exact h4|trivial|(exact u8w_in _)|(exact congrArg Th.own h3)|(exact congrArg Th.rr h4)|(exact congrArg (fun x:RS=>Value.int .i64 x.err) h4)|(exact congrArg (Value.int .i64) h1))⟩
set_option maxRecDepth 100000 in
theorem rei_x (L:List (List UInt8)) (b:List UInt8) (X:List Rw) (ea eb ec:Int) (S:List UInt8) (q:RS) (i:Int) (k:Nat) (f:Nat→Value) (h0:decide (i<(16:Int))=false):∃ qs,alX Id' 13 4 [(11,.c (.one (.obj 13)))] [⟨.us (.ext (.shr 1 L.length (tbE L))),false⟩,⟨.dead,true⟩,⟨.dead,true⟩,⟨.dead,true⟩,⟨.us (.rr (RS.new b)),false⟩,⟨.us (.ext (.flat (.rw 109 [true,false,false,false] X))),true⟩,⟨.dead,true⟩,⟨.bx [.obj 14,.v (.int .i64 q.err)],true⟩,⟨.dead,true⟩,⟨.dead,true⟩,⟨.dead,true⟩,⟨.dead,true⟩,⟨.blk [.v (.string ⟨#[]⟩),.v (.int .i64 ea),.v (.int .i64 eb),.v (.int .i64 ec)],true⟩,⟨.us (.own S),true⟩,⟨.us (.rr q),false⟩] ((symC (⟨Try.prog,[(129,ctrF Id' C_rget hardD)],[],dkHo,Id'.one,60⟩:Sy Td) [] 113 (hdC (loopsC (bodyOf Try.f62)) 2) ⟨[(12,.c (.one (.v (.int .i64 i)))),(11,.c (.one (.obj 13)))]++anyB' (writesC (hdC (loopsC (bodyOf Try.f62)) 2)) ([(8,.c (.one (.ptr 7 0)))]++tabV f 113),[⟨.us (.ext (.shr 1 L.length (tbE L))),false⟩,⟨.dead,true⟩,⟨.dead,true⟩,⟨.dead,true⟩,⟨.us (.rr (RS.new b)),false⟩,⟨.us (.ext (.flat (.rw 109 [true,false,false,false] X))),true⟩,⟨.dead,true⟩,⟨.bx [.obj 14,.v (.int .i64 q.err)],true⟩,⟨.dead,true⟩,⟨.dead,true⟩,⟨.dead,true⟩,⟨.dead,true⟩,⟨.blk [.v (.string ⟨#[]⟩),.v (.int .i64 ea),.v (.int .i64 eb),.v (.int .i64 ec)],true⟩,⟨.us (.own S),true⟩,⟨.us (.rr q),false⟩],0⟩).al [false])=some qs∧∀ q∈qs,q:=
 ⟨[decide (i<(16:Int))=false,Th.ext (Dk.shr 1 L.length (tbE L))=Th.ext (Dk.shr 1 L.length (tbE L)),(Th.rr (RS.new b):Td)=Th.rr (RS.new b),Th.ext (Dk.flat (FL.rw 109 [true,false,false,false] X))=Th.ext (Dk.flat (FL.rw 109 [true,false,false,false] X)),Value.int IntKind.i64 q.err=Value.int IntKind.i64 q.err,Value.string (ByteArray.mk #[])=Value.string (ByteArray.mk #[]),Value.int IntKind.i64 ea=Value.int IntKind.i64 ea,Value.int IntKind.i64 eb=Value.int IntKind.i64 eb,Value.int IntKind.i64 ec=Value.int IntKind.i64 ec,(Th.own S:Td)=Th.own S,(Th.rr q:Td)=Th.rr q],by kernel_rfl,(by refine mcons ?_ (mcons ?_ (mcons ?_ (mcons ?_ (mcons ?_ (mcons ?_ (mcons ?_ (mcons ?_ (mcons ?_ (mcons ?_ (mcons ?_ mnil))))))))))<;>first|rfl|exact h0|trivial)⟩
set_option maxRecDepth 100000 in
theorem rei_lp (L:List (List UInt8)) (b:List UInt8) (X:List Rw) (ea eb ec:Int) (s:RS) {W0:World} {G:Nat→Prop} (S0:Sy Td) (hS0:S0.P=Try.prog):LoopSound S0 Id' W0 G 113 (hdC (loopsC (bodyOf Try.f62)) 2) (lpG Id' 113 (hdC (loopsC (bodyOf Try.f62)) 2) 13 [(12,.c (.one (.v (.int .i64 ((0:Nat):Int))))),(11,.c (.one (.obj 13)))] [(8,.c (.one (.ptr 7 0)))] [⟨.us (.ext (.shr 1 L.length (tbE L))),false⟩,⟨.dead,true⟩,⟨.dead,true⟩,⟨.dead,true⟩,⟨.us (.rr (RS.new b)),false⟩,⟨.us (.ext (.flat (.rw 109 [true,false,false,false] X))),true⟩,⟨.dead,true⟩,⟨.bx [.obj 14,.v (.int .i64 (gS 0 s).err)],true⟩,⟨.dead,true⟩,⟨.dead,true⟩,⟨.dead,true⟩,⟨.dead,true⟩,⟨.blk [.v (.string ⟨#[]⟩),.v (.int .i64 ea),.v (.int .i64 eb),.v (.int .i64 ec)],true⟩,⟨.us (.own (gL 0 s)),true⟩,⟨.us (.rr (gS 0 s)),false⟩] (.leaf (.exit 4) [(11,.c (.one (.obj 13)))] [⟨.us (.ext (.shr 1 L.length (tbE L))),false⟩,⟨.dead,true⟩,⟨.dead,true⟩,⟨.dead,true⟩,⟨.us (.rr (RS.new b)),false⟩,⟨.us (.ext (.flat (.rw 109 [true,false,false,false] X))),true⟩,⟨.dead,true⟩,⟨.bx [.obj 14,.v (.int .i64 (gS 16 s).err)],true⟩,⟨.dead,true⟩,⟨.dead,true⟩,⟨.dead,true⟩,⟨.dead,true⟩,⟨.blk [.v (.string ⟨#[]⟩),.v (.int .i64 ea),.v (.int .i64 eb),.v (.int .i64 ec)],true⟩,⟨.us (.own (gL 16 s)),true⟩,⟨.us (.rr (gS 16 s)),false⟩])):=by
 refine lp_sound (V:=fun k=>[(12,.c (.one (.v (.int .i64 (k:Int))))),(11,.c (.one (.obj 13)))]) (M:=(fun k=>[⟨.us (.ext (.shr 1 L.length (tbE L))),false⟩,⟨.dead,true⟩,⟨.dead,true⟩,⟨.dead,true⟩,⟨.us (.rr (RS.new b)),false⟩,⟨.us (.ext (.flat (.rw 109 [true,false,false,false] X))),true⟩,⟨.dead,true⟩,⟨.bx [.obj 14,.v (.int .i64 (gS k s).err)],true⟩,⟨.dead,true⟩,⟨.dead,true⟩,⟨.dead,true⟩,⟨.dead,true⟩,⟨.blk [.v (.string ⟨#[]⟩),.v (.int .i64 ea),.v (.int .i64 eb),.v (.int .i64 ec)],true⟩,⟨.us (.own (gL k s)),true⟩,⟨.us (.rr (gS k s)),false⟩]:Nat→Mem Td)) (N:=16) (Ux:=fun k x=>match x with|.exit 4=>some ([(11,.c (.one (.obj 13)))],([⟨.us (.ext (.shr 1 L.length (tbE L))),false⟩,⟨.dead,true⟩,⟨.dead,true⟩,⟨.dead,true⟩,⟨.us (.rr (RS.new b)),false⟩,⟨.us (.ext (.flat (.rw 109 [true,false,false,false] X))),true⟩,⟨.dead,true⟩,⟨.bx [.obj 14,.v (.int .i64 (gS 16 s).err)],true⟩,⟨.dead,true⟩,⟨.dead,true⟩,⟨.dead,true⟩,⟨.dead,true⟩,⟨.blk [.v (.string ⟨#[]⟩),.v (.int .i64 ea),.v (.int .i64 eb),.v (.int .i64 ec)],true⟩,⟨.us (.own (gL 16 s)),true⟩,⟨.us (.rr (gS 16 s)),false⟩]:Mem Td))|_=>none) (X:=fun _ _=>True) (J:=fun k=>k≤16) (fun k=>by kernel_rfl) (Nat.zero_le _) (fun k hk hJ f=>?_) (fun K hK k x U hk hU hX=>?_)
 ·rw [hS0]
  cases hT:decide ((k:Int)<(16:Int)) with
  |false=>
   have hke:k=16:=by have:=of_decide_eq_false hT;omega
   subst hke
   exact rnd_xD (⟨Try.prog,[(129,ctrF Id' C_rget hardD)],[],dkHo,Id'.one,60⟩:Sy Td) rfl ((fun (W0:World) (G:Nat→Prop)=>SyOk.mk2 Try.mixed dkHo_ok (FnsR.cons (R_rget) (FnsR.nil)) EqsOk.nil) W0 G) (rei_x L b X ea eb ec _ _ _ 16 f hT) rfl trivial
  |true=>
   have hk1:=of_decide_eq_true hT
   have hW:IntKind.i64.wrap ((k:Int)+1)=((k+1:Nat):Int):=by rw [IntWalk.i64_in _ (by omega)];omega
   have hl:=gL_len k s
   exact rnd_nD (⟨Try.prog,[(129,ctrF Id' C_rget hardD)],[],dkHo,Id'.one,60⟩:Sy Td) rfl ((fun (W0:World) (G:Nat→Prop)=>SyOk.mk2 Try.mixed dkHo_ok (FnsR.cons (R_rget) (FnsR.nil)) EqsOk.nil) W0 G) (rei_n L b X ea eb ec (gL k s) (gL (k+1) s) (gS k s) (gS (k+1) s) _ _ k f hT hW (by omega) (gL_snoc k s).symm (gS_snoc k s).symm) rfl rfl (by omega) (by omega)
 ·revert hU
  match x with
  |.normal=>intro hU;cases hU
  |.ret=>intro hU;cases hU
  |.exit n=>
   intro hU
   by_cases h:n=4
   ·subst h;simp only [Option.some.injEq] at hU;subst hU;exact hK
   ·exfalso;split at hU
    ·rename_i he;cases he;exact h rfl
    ·cases hU
end Go.Proofs.Ytdenmoiaiemokaa
set_option linter.unusedVariables false
set_option linter.unusedSimpArgs false
namespace Go.Proofs.Ytdenmoiaiemokaa
open Go.RowKit
def slE (b:List UInt8) (i:Int):RS:=⟨b,0+(IntKind.i64.wrap (172 * i)).toNat,0⟩
def gq (s:RS):Int:=IntKind.i64.wrap (s.num 5:Int)
def inE (s:RS):Bool:=decide (gq s>0)&&decide (gq s≤16)
def entH (s:RS):Rw:=⟨[gA s,gB s,gC s],[⟨(((gL 16 (g4 s)).drop 0).take ((gq s).toNat - 0)).toArray⟩]⟩
theorem inE_in {s:RS} (h:inE s=true):(0:Int)≤0∧(0:Int)≤gq s∧gq s≤(((gL 16 (g4 s)).length:Nat):Int):=by
 unfold inE at h
 rw [Bool.and_eq_true,decide_eq_true_iff,decide_eq_true_iff] at h
 rw [gL_len]
 omega
theorem ownNil:∀ (w:World),Id'.holds (Th.own []) w nilV∧∀ (j:Nat),¬Id'.foot (Th.own []) w nilV j:=fun w=>⟨⟨0,Nat.zero_le _,World.ownsRow_nil _ _ _ _⟩,fun j h=>by cases h⟩
set_option maxRecDepth 100000 in
theorem rem_n1 (L:List (List UInt8)) (b:List UInt8) (X Y:List Rw) (i i2:Int) (k:Nat) (f:Nat→Value) (h0:decide (i<(5:Int))=true) (h1:IntKind.i64.wrap (i+1)=i2) (h2:0≤IntKind.i64.wrap (172 * i)∧IntKind.i64.wrap (172 * i)≤((8 * b.length - 0:Nat):Int)) (h3:inE (slE b i)=true) (h4:X.length+1≤100000) (h5:X++[entH (slE b i)]=Y):∃ qs,alN Id' 5 [(7,.c (.one (.v (.int .i64 i2)))),(4,.c (.one (.obj 5)))] [⟨.us (.ext (.shr 1 L.length (tbE L))),false⟩,⟨.dead,true⟩,⟨.dead,true⟩,⟨.dead,true⟩,⟨.us (.rr ⟨b,0,0⟩),false⟩,⟨.us (.ext (.flat (.rw 109 [true,false,false,false] Y))),true⟩] ((symC (⟨Try.prog,[(129,ctrF Id' C_rget hardD)],[],dkHo,Id'.one,60⟩:Sy Td) [(100012,mapG (modAt toBx 7) (⟨Try.prog,[(129,ctrF Id' C_rget hardD)],[],dkHo,Id'.one,60⟩:Sy Td) 113 (regO 12 (bodyOf Try.f62)) (drwR 12 (bodyOf Try.f62))),(16,(lpG Id' 113 (hdC (loopsC (bodyOf Try.f62)) 2) 13 [(12,.c (.one (.v (.int .i64 ((0:Nat):Int))))),(11,.c (.one (.obj 13)))] [(8,.c (.one (.ptr 7 0)))] [⟨.us (.ext (.shr 1 L.length (tbE L))),false⟩,⟨.dead,true⟩,⟨.dead,true⟩,⟨.dead,true⟩,⟨.us (.rr (RS.new b)),false⟩,⟨.us (.ext (.flat (.rw 109 [true,false,false,false] X))),true⟩,⟨.dead,true⟩,⟨.bx [.obj 14,.v (.int .i64 (gS 0 (g4 (slE b i))).err)],true⟩,⟨.dead,true⟩,⟨.dead,true⟩,⟨.dead,true⟩,⟨.dead,true⟩,⟨.blk [.v (.string ⟨#[]⟩),.v (.int .i64 (gA (slE b i))),.v (.int .i64 (gB (slE b i))),.v (.int .i64 (gC (slE b i)))],true⟩,⟨.us (.own (gL 0 (g4 (slE b i)))),true⟩,⟨.us (.rr (gS 0 (g4 (slE b i)))),false⟩] (.leaf (.exit 4) [(11,.c (.one (.obj 13)))] [⟨.us (.ext (.shr 1 L.length (tbE L))),false⟩,⟨.dead,true⟩,⟨.dead,true⟩,⟨.dead,true⟩,⟨.us (.rr (RS.new b)),false⟩,⟨.us (.ext (.flat (.rw 109 [true,false,false,false] X))),true⟩,⟨.dead,true⟩,⟨.bx [.obj 14,.v (.int .i64 (gS 16 (g4 (slE b i))).err)],true⟩,⟨.dead,true⟩,⟨.dead,true⟩,⟨.dead,true⟩,⟨.dead,true⟩,⟨.blk [.v (.string ⟨#[]⟩),.v (.int .i64 (gA (slE b i))),.v (.int .i64 (gB (slE b i))),.v (.int .i64 (gC (slE b i)))],true⟩,⟨.us (.own (gL 16 (g4 (slE b i)))),true⟩,⟨.us (.rr (gS 16 (g4 (slE b i)))),false⟩])))] 113 (hdC (loopsC (bodyOf Try.f62)) 1) ⟨[(7,.c (.one (.v (.int .i64 i)))),(4,.c (.one (.obj 5)))]++anyB' (writesC (hdC (loopsC (bodyOf Try.f62)) 1)) ([(6,.c (.one (.obj 4)))]++tabV f 113),[⟨.us (.ext (.shr 1 L.length (tbE L))),false⟩,⟨.dead,true⟩,⟨.dead,true⟩,⟨.dead,true⟩,⟨.us (.rr ⟨b,0,0⟩),false⟩,⟨.us (.ext (.flat (.rw 109 [true,false,false,false] X))),true⟩],0⟩).al [true,true])=some qs∧∀ q∈qs,q:=
 ⟨[decide (i<(5:Int))=true,(0:Int)≤IntKind.i64.wrap ((172:Int) * i)∧IntKind.i64.wrap ((172:Int) * i)≤(↑((8:Nat) * (RS.new b).l.length - (RS.new b).at'):Int)∧(↑((8:Nat) * (RS.new b).l.length - (RS.new b).at'):Int)=(↑((8:Nat) * (RS.new b).l.length - (RS.new b).at'):Int),(0:Int)=(slE b i).err,((((slE b i).get (5:Int)).get (6:Int)).get (31:Int)).err=((((slE b i).get (5:Int)).get (6:Int)).get (31:Int)).err,(((slE b i).get (5:Int)).get (6:Int)).err=(((slE b i).get (5:Int)).get (6:Int)).err,((slE b i).get (5:Int)).err=((slE b i).get (5:Int)).err,Th.ext (Dk.shr 1 L.length (tbE L))=Th.ext (Dk.shr 1 L.length (tbE L)),(Th.rr (RS.new b):Td)=Th.rr (RS.new b),Th.ext (Dk.flat (FL.rw 109 [true,false,false,false] X))=Th.ext (Dk.flat (FL.rw 109 [true,false,false,false] X)),Value.int IntKind.i64 (((((slE b i).get (5:Int)).get (6:Int)).get (31:Int)).get (2:Int)).err=Value.int IntKind.i64 (gS (0:Nat) (g4 (slE b i))).err,Value.string (ByteArray.mk #[])=Value.string (ByteArray.mk #[]),Value.int IntKind.i64 (IntKind.i64.wrap (↑(((slE b i).get (5:Int)).num (6:Int)):Int))=Value.int IntKind.i64 (gA (slE b i)),Value.int IntKind.i64 (IntKind.i64.wrap (↑((((slE b i).get (5:Int)).get (6:Int)).num (31:Int)):Int))=Value.int IntKind.i64 (gB (slE b i)),Value.int IntKind.i64 (IntKind.i64.wrap (↑(((((slE b i).get (5:Int)).get (6:Int)).get (31:Int)).num (2:Int)):Int))=Value.int IntKind.i64 (gC (slE b i)),∀ (w:World),Id'.holds (Th.own ([]:List UInt8)) w nilV∧∀ (j:Nat),¬Id'.foot (Th.own ([]:List UInt8)) w nilV j,(Th.rr (g4 (slE b i)):Td)=Th.rr (gS 0 (g4 (slE b i))),Value.int IntKind.i64 (Int.ofNat 0)=Value.int IntKind.i64 (Int.ofNat (0:Nat)),inE (slE b i)=true,(0:Int)≤0∧(0:Int)≤gq (slE b i)∧gq (slE b i)≤(((gL 16 (g4 (slE b i))).length:Nat):Int),X.length+[entH (slE b i)].length≤(100000:Nat),Th.ext (Dk.shr 1 L.length (tbE L))=Th.ext (Dk.shr 1 L.length (tbE L)),(Th.rr (RS.new b):Td)=Th.rr (RS.new b),(Th.ext (Dk.flat (FL.rw 109 [true,false,false,false] (X++[entH (slE b i)]))):Td)=(Th.ext (Dk.flat (FL.rw 109 [true,false,false,false] Y)):Td),Value.int IntKind.i64 (IntKind.i64.wrap (i+(1:Int)))=Value.int IntKind.i64 i2],by kernel_rfl,(by refine mcons ?_ (mcons ?_ (mcons ?_ (mcons ?_ (mcons ?_ (mcons ?_ (mcons ?_ (mcons ?_ (mcons ?_ (mcons ?_ (mcons ?_ (mcons ?_ (mcons ?_ (mcons ?_ (mcons ?_ (mcons ?_ (mcons ?_ (mcons ?_ (mcons ?_ (mcons ?_ (mcons ?_ (mcons ?_ (mcons ?_ (mcons ?_ mnil)))))))))))))))))))))))<;>first|rfl|exact h0|exact h1|exact h2|exact h3|exact h4|exact h5|trivial|(exact ⟨h2.1,h2.2,rfl⟩)|(exact ownNil)|(exact inE_in h3)|(exact congrArg (Value.int .i64) h1)|(exact congrArg (fun x=>(Th.ext (Dk.flat (FL.rw 109 [true,false,false,false] x)):Td)) h5))⟩
set_option maxRecDepth 100000 in
theorem rem_n0 (L:List (List UInt8)) (b:List UInt8) (X Y:List Rw) (i i2:Int) (k:Nat) (f:Nat→Value) (h0:decide (i<(5:Int))=true) (h1:IntKind.i64.wrap (i+1)=i2) (h2:0≤IntKind.i64.wrap (172 * i)∧IntKind.i64.wrap (172 * i)≤((8 * b.length - 0:Nat):Int)) (h3:inE (slE b i)=false) (h4:X=Y):∃ qs,alN Id' 5 [(7,.c (.one (.v (.int .i64 i2)))),(4,.c (.one (.obj 5)))] [⟨.us (.ext (.shr 1 L.length (tbE L))),false⟩,⟨.dead,true⟩,⟨.dead,true⟩,⟨.dead,true⟩,⟨.us (.rr ⟨b,0,0⟩),false⟩,⟨.us (.ext (.flat (.rw 109 [true,false,false,false] Y))),true⟩] ((symC (⟨Try.prog,[(129,ctrF Id' C_rget hardD)],[],dkHo,Id'.one,60⟩:Sy Td) [(100012,mapG (modAt toBx 7) (⟨Try.prog,[(129,ctrF Id' C_rget hardD)],[],dkHo,Id'.one,60⟩:Sy Td) 113 (regO 12 (bodyOf Try.f62)) (drwR 12 (bodyOf Try.f62))),(16,(lpG Id' 113 (hdC (loopsC (bodyOf Try.f62)) 2) 13 [(12,.c (.one (.v (.int .i64 ((0:Nat):Int))))),(11,.c (.one (.obj 13)))] [(8,.c (.one (.ptr 7 0)))] [⟨.us (.ext (.shr 1 L.length (tbE L))),false⟩,⟨.dead,true⟩,⟨.dead,true⟩,⟨.dead,true⟩,⟨.us (.rr (RS.new b)),false⟩,⟨.us (.ext (.flat (.rw 109 [true,false,false,false] X))),true⟩,⟨.dead,true⟩,⟨.bx [.obj 14,.v (.int .i64 (gS 0 (g4 (slE b i))).err)],true⟩,⟨.dead,true⟩,⟨.dead,true⟩,⟨.dead,true⟩,⟨.dead,true⟩,⟨.blk [.v (.string ⟨#[]⟩),.v (.int .i64 (gA (slE b i))),.v (.int .i64 (gB (slE b i))),.v (.int .i64 (gC (slE b i)))],true⟩,⟨.us (.own (gL 0 (g4 (slE b i)))),true⟩,⟨.us (.rr (gS 0 (g4 (slE b i)))),false⟩] (.leaf (.exit 4) [(11,.c (.one (.obj 13)))] [⟨.us (.ext (.shr 1 L.length (tbE L))),false⟩,⟨.dead,true⟩,⟨.dead,true⟩,⟨.dead,true⟩,⟨.us (.rr (RS.new b)),false⟩,⟨.us (.ext (.flat (.rw 109 [true,false,false,false] X))),true⟩,⟨.dead,true⟩,⟨.bx [.obj 14,.v (.int .i64 (gS 16 (g4 (slE b i))).err)],true⟩,⟨.dead,true⟩,⟨.dead,true⟩,⟨.dead,true⟩,⟨.dead,true⟩,⟨.blk [.v (.string ⟨#[]⟩),.v (.int .i64 (gA (slE b i))),.v (.int .i64 (gB (slE b i))),.v (.int .i64 (gC (slE b i)))],true⟩,⟨.us (.own (gL 16 (g4 (slE b i)))),true⟩,⟨.us (.rr (gS 16 (g4 (slE b i)))),false⟩])))] 113 (hdC (loopsC (bodyOf Try.f62)) 1) ⟨[(7,.c (.one (.v (.int .i64 i)))),(4,.c (.one (.obj 5)))]++anyB' (writesC (hdC (loopsC (bodyOf Try.f62)) 1)) ([(6,.c (.one (.obj 4)))]++tabV f 113),[⟨.us (.ext (.shr 1 L.length (tbE L))),false⟩,⟨.dead,true⟩,⟨.dead,true⟩,⟨.dead,true⟩,⟨.us (.rr ⟨b,0,0⟩),false⟩,⟨.us (.ext (.flat (.rw 109 [true,false,false,false] X))),true⟩],0⟩).al [true,false])=some qs∧∀ q∈qs,q:=
 ⟨[decide (i<(5:Int))=true,(0:Int)≤IntKind.i64.wrap ((172:Int) * i)∧IntKind.i64.wrap ((172:Int) * i)≤(↑((8:Nat) * (RS.new b).l.length - (RS.new b).at'):Int)∧(↑((8:Nat) * (RS.new b).l.length - (RS.new b).at'):Int)=(↑((8:Nat) * (RS.new b).l.length - (RS.new b).at'):Int),(0:Int)=(slE b i).err,((((slE b i).get (5:Int)).get (6:Int)).get (31:Int)).err=((((slE b i).get (5:Int)).get (6:Int)).get (31:Int)).err,(((slE b i).get (5:Int)).get (6:Int)).err=(((slE b i).get (5:Int)).get (6:Int)).err,((slE b i).get (5:Int)).err=((slE b i).get (5:Int)).err,Th.ext (Dk.shr 1 L.length (tbE L))=Th.ext (Dk.shr 1 L.length (tbE L)),(Th.rr (RS.new b):Td)=Th.rr (RS.new b),Th.ext (Dk.flat (FL.rw 109 [true,false,false,false] X))=Th.ext (Dk.flat (FL.rw 109 [true,false,false,false] X)),Value.int IntKind.i64 (((((slE b i).get (5:Int)).get (6:Int)).get (31:Int)).get (2:Int)).err=Value.int IntKind.i64 (gS (0:Nat) (g4 (slE b i))).err,Value.string (ByteArray.mk #[])=Value.string (ByteArray.mk #[]),Value.int IntKind.i64 (IntKind.i64.wrap (↑(((slE b i).get (5:Int)).num (6:Int)):Int))=Value.int IntKind.i64 (gA (slE b i)),Value.int IntKind.i64 (IntKind.i64.wrap (↑((((slE b i).get (5:Int)).get (6:Int)).num (31:Int)):Int))=Value.int IntKind.i64 (gB (slE b i)),Value.int IntKind.i64 (IntKind.i64.wrap (↑(((((slE b i).get (5:Int)).get (6:Int)).get (31:Int)).num (2:Int)):Int))=Value.int IntKind.i64 (gC (slE b i)),∀ (w:World),Id'.holds (Th.own ([]:List UInt8)) w nilV∧∀ (j:Nat),¬Id'.foot (Th.own ([]:List UInt8)) w nilV j,(Th.rr (g4 (slE b i)):Td)=Th.rr (gS 0 (g4 (slE b i))),Value.int IntKind.i64 (Int.ofNat 0)=Value.int IntKind.i64 (Int.ofNat (0:Nat)),inE (slE b i)=false,Th.ext (Dk.shr 1 L.length (tbE L))=Th.ext (Dk.shr 1 L.length (tbE L)),(Th.rr (RS.new b):Td)=Th.rr (RS.new b),Th.ext (Dk.flat (FL.rw 109 [true,false,false,false] X))=Th.ext (Dk.flat (FL.rw 109 [true,false,false,false] Y)),Value.int IntKind.i64 (IntKind.i64.wrap (i+(1:Int)))=Value.int IntKind.i64 i2],by kernel_rfl,(by refine mcons ?_ (mcons ?_ (mcons ?_ (mcons ?_ (mcons ?_ (mcons ?_ (mcons ?_ (mcons ?_ (mcons ?_ (mcons ?_ (mcons ?_ (mcons ?_ (mcons ?_ (mcons ?_ (mcons ?_ (mcons ?_ (mcons ?_ (mcons ?_ (mcons ?_ (mcons ?_ (mcons ?_ (mcons ?_ mnil)))))))))))))))))))))<;>first|rfl|exact h0|exact h1|exact h2|exact h3|exact h4|trivial|(exact ⟨h2.1,h2.2,rfl⟩)|(exact ownNil)|(exact inE_in h3)|(exact congrArg (Value.int .i64) h1)|(exact congrArg (fun x=>(Th.ext (Dk.flat (FL.rw 109 [true,false,false,false] x)):Td)) h4))⟩
set_option maxRecDepth 100000 in
theorem rem_x (L:List (List UInt8)) (b:List UInt8) (X:List Rw) (i:Int) (k:Nat) (f:Nat→Value) (h0:decide (i<(5:Int))=false):∃ qs,alX Id' 5 2 [(4,.c (.one (.obj 5)))] [⟨.us (.ext (.shr 1 L.length (tbE L))),false⟩,⟨.dead,true⟩,⟨.dead,true⟩,⟨.dead,true⟩,⟨.us (.rr ⟨b,0,0⟩),false⟩,⟨.us (.ext (.flat (.rw 109 [true,false,false,false] X))),true⟩] ((symC (⟨Try.prog,[(129,ctrF Id' C_rget hardD)],[],dkHo,Id'.one,60⟩:Sy Td) [(100012,mapG (modAt toBx 7) (⟨Try.prog,[(129,ctrF Id' C_rget hardD)],[],dkHo,Id'.one,60⟩:Sy Td) 113 (regO 12 (bodyOf Try.f62)) (drwR 12 (bodyOf Try.f62))),(16,(lpG Id' 113 (hdC (loopsC (bodyOf Try.f62)) 2) 13 [(12,.c (.one (.v (.int .i64 ((0:Nat):Int))))),(11,.c (.one (.obj 13)))] [(8,.c (.one (.ptr 7 0)))] [⟨.us (.ext (.shr 1 L.length (tbE L))),false⟩,⟨.dead,true⟩,⟨.dead,true⟩,⟨.dead,true⟩,⟨.us (.rr (RS.new b)),false⟩,⟨.us (.ext (.flat (.rw 109 [true,false,false,false] X))),true⟩,⟨.dead,true⟩,⟨.bx [.obj 14,.v (.int .i64 (gS 0 (g4 (slE b i))).err)],true⟩,⟨.dead,true⟩,⟨.dead,true⟩,⟨.dead,true⟩,⟨.dead,true⟩,⟨.blk [.v (.string ⟨#[]⟩),.v (.int .i64 (gA (slE b i))),.v (.int .i64 (gB (slE b i))),.v (.int .i64 (gC (slE b i)))],true⟩,⟨.us (.own (gL 0 (g4 (slE b i)))),true⟩,⟨.us (.rr (gS 0 (g4 (slE b i)))),false⟩] (.leaf (.exit 4) [(11,.c (.one (.obj 13)))] [⟨.us (.ext (.shr 1 L.length (tbE L))),false⟩,⟨.dead,true⟩,⟨.dead,true⟩,⟨.dead,true⟩,⟨.us (.rr (RS.new b)),false⟩,⟨.us (.ext (.flat (.rw 109 [true,false,false,false] X))),true⟩,⟨.dead,true⟩,⟨.bx [.obj 14,.v (.int .i64 (gS 16 (g4 (slE b i))).err)],true⟩,⟨.dead,true⟩,⟨.dead,true⟩,⟨.dead,true⟩,⟨.dead,true⟩,⟨.blk [.v (.string ⟨#[]⟩),.v (.int .i64 (gA (slE b i))),.v (.int .i64 (gB (slE b i))),.v (.int .i64 (gC (slE b i)))],true⟩,⟨.us (.own (gL 16 (g4 (slE b i)))),true⟩,⟨.us (.rr (gS 16 (g4 (slE b i)))),false⟩])))] 113 (hdC (loopsC (bodyOf Try.f62)) 1) ⟨[(7,.c (.one (.v (.int .i64 i)))),(4,.c (.one (.obj 5)))]++anyB' (writesC (hdC (loopsC (bodyOf Try.f62)) 1)) ([(6,.c (.one (.obj 4)))]++tabV f 113),[⟨.us (.ext (.shr 1 L.length (tbE L))),false⟩,⟨.dead,true⟩,⟨.dead,true⟩,⟨.dead,true⟩,⟨.us (.rr ⟨b,0,0⟩),false⟩,⟨.us (.ext (.flat (.rw 109 [true,false,false,false] X))),true⟩],0⟩).al [false])=some qs∧∀ q∈qs,q:=
 ⟨[decide (i<(5:Int))=false,Th.ext (Dk.shr 1 L.length (tbE L))=Th.ext (Dk.shr 1 L.length (tbE L)),(Th.rr (RS.new b):Td)=Th.rr (RS.new b),Th.ext (Dk.flat (FL.rw 109 [true,false,false,false] X))=Th.ext (Dk.flat (FL.rw 109 [true,false,false,false] X))],by kernel_rfl,(by refine mcons ?_ (mcons ?_ (mcons ?_ (mcons ?_ mnil)))<;>first|rfl|exact h0|trivial)⟩
def stH (b:List UInt8) (X:List Rw):Nat→List Rw
 |0=>X
 |k+1=>bif inE (slE b (k:Int)) then stH b X k++[entH (slE b (k:Int))] else stH b X k
def stR (L:List (List UInt8)):Nat→List Rw
 |0=>[]
 |k+1=>stH (L.getD k []) (stR L k) 5
theorem stH_len (b:List UInt8) (X:List Rw):∀ k,(stH b X k).length≤X.length+k
 |0=>Nat.le_refl _
 |k+1=>by
  have:=stH_len b X k
  unfold stH
  cases h:inE (slE b (k:Int)) with
  |false=>show (stH b X k).length≤_;omega
  |true=>show (stH b X k++[_]).length≤_;rw [List.length_append,List.length_singleton];omega
theorem stR_len (L:List (List UInt8)):∀ k,(stR L k).length≤5 * k
 |0=>Nat.le_refl _
 |k+1=>by
  have h1:=stR_len L k
  have h2:=stH_len (L.getD k []) (stR L k) 5
  show (stH _ _ 5).length≤_
  omega
set_option maxRecDepth 100000 in
theorem rem_lp (L:List (List UInt8)) (b:List UInt8) (X:List Rw) (hb:b.length=128) (hX:X.length≤10000) {W0:World} {G:Nat→Prop} (S0:Sy Td) (hS0:S0.P=Try.prog):LoopSound S0 Id' W0 G 113 (hdC (loopsC (bodyOf Try.f62)) 1) (lpG Id' 113 (hdC (loopsC (bodyOf Try.f62)) 1) 5 [(7,.c (.one (.v (.int .i64 ((0:Nat):Int))))),(4,.c (.one (.obj 5)))] [(6,.c (.one (.obj 4)))] [⟨.us (.ext (.shr 1 L.length (tbE L))),false⟩,⟨.dead,true⟩,⟨.dead,true⟩,⟨.dead,true⟩,⟨.us (.rr (RS.new b)),false⟩,⟨.us (.ext (.flat (.rw 109 [true,false,false,false] (stH b X 0)))),true⟩] (.leaf (.exit 2) [(4,.c (.one (.obj 5)))] [⟨.us (.ext (.shr 1 L.length (tbE L))),false⟩,⟨.dead,true⟩,⟨.dead,true⟩,⟨.dead,true⟩,⟨.us (.rr (RS.new b)),false⟩,⟨.us (.ext (.flat (.rw 109 [true,false,false,false] (stH b X 5)))),true⟩])):=by
 refine lp_sound (V:=fun k=>[(7,.c (.one (.v (.int .i64 (k:Int))))),(4,.c (.one (.obj 5)))]) (M:=(fun k=>[⟨.us (.ext (.shr 1 L.length (tbE L))),false⟩,⟨.dead,true⟩,⟨.dead,true⟩,⟨.dead,true⟩,⟨.us (.rr (RS.new b)),false⟩,⟨.us (.ext (.flat (.rw 109 [true,false,false,false] (stH b X k)))),true⟩]:Nat→Mem Td)) (N:=5) (Ux:=fun k x=>match x with|.exit 2=>some ([(4,.c (.one (.obj 5)))],([⟨.us (.ext (.shr 1 L.length (tbE L))),false⟩,⟨.dead,true⟩,⟨.dead,true⟩,⟨.dead,true⟩,⟨.us (.rr (RS.new b)),false⟩,⟨.us (.ext (.flat (.rw 109 [true,false,false,false] (stH b X 5)))),true⟩]:Mem Td))|_=>none) (X:=fun _ _=>True) (J:=fun k=>k≤5) (fun k=>by kernel_rfl) (Nat.zero_le _) (fun k hk hJ f=>?_) (fun K hK k x U hk hU hX=>?_)
 ·rw [hS0]
  cases hT:decide ((k:Int)<(5:Int)) with
  |false=>
   have hke:k=5:=by have:=of_decide_eq_false hT;omega
   subst hke
   obtain ⟨ps,h1,h2⟩:=rem_x L b (stH b X 5) _ 5 f hT
   exact rnd_x (⟨Try.prog,[(129,ctrF Id' C_rget hardD)],[],dkHo,Id'.one,60⟩:Sy Td) [(100012,mapG (modAt toBx 7) (⟨Try.prog,[(129,ctrF Id' C_rget hardD)],[],dkHo,Id'.one,60⟩:Sy Td) 113 (regO 12 (bodyOf Try.f62)) (drwR 12 (bodyOf Try.f62))),(16,(lpG Id' 113 (hdC (loopsC (bodyOf Try.f62)) 2) 13 [(12,.c (.one (.v (.int .i64 ((0:Nat):Int))))),(11,.c (.one (.obj 13)))] [(8,.c (.one (.ptr 7 0)))] [⟨.us (.ext (.shr 1 L.length (tbE L))),false⟩,⟨.dead,true⟩,⟨.dead,true⟩,⟨.dead,true⟩,⟨.us (.rr (RS.new b)),false⟩,⟨.us (.ext (.flat (.rw 109 [true,false,false,false] (stH b X 5)))),true⟩,⟨.dead,true⟩,⟨.bx [.obj 14,.v (.int .i64 (gS 0 (g4 (slE b ((5:Nat):Int)))).err)],true⟩,⟨.dead,true⟩,⟨.dead,true⟩,⟨.dead,true⟩,⟨.dead,true⟩,⟨.blk [.v (.string ⟨#[]⟩),.v (.int .i64 (gA (slE b ((5:Nat):Int)))),.v (.int .i64 (gB (slE b ((5:Nat):Int)))),.v (.int .i64 (gC (slE b ((5:Nat):Int))))],true⟩,⟨.us (.own (gL 0 (g4 (slE b ((5:Nat):Int))))),true⟩,⟨.us (.rr (gS 0 (g4 (slE b ((5:Nat):Int))))),false⟩] (.leaf (.exit 4) [(11,.c (.one (.obj 13)))] [⟨.us (.ext (.shr 1 L.length (tbE L))),false⟩,⟨.dead,true⟩,⟨.dead,true⟩,⟨.dead,true⟩,⟨.us (.rr (RS.new b)),false⟩,⟨.us (.ext (.flat (.rw 109 [true,false,false,false] (stH b X 5)))),true⟩,⟨.dead,true⟩,⟨.bx [.obj 14,.v (.int .i64 (gS 16 (g4 (slE b ((5:Nat):Int)))).err)],true⟩,⟨.dead,true⟩,⟨.dead,true⟩,⟨.dead,true⟩,⟨.dead,true⟩,⟨.blk [.v (.string ⟨#[]⟩),.v (.int .i64 (gA (slE b ((5:Nat):Int)))),.v (.int .i64 (gB (slE b ((5:Nat):Int)))),.v (.int .i64 (gC (slE b ((5:Nat):Int))))],true⟩,⟨.us (.own (gL 16 (g4 (slE b ((5:Nat):Int))))),true⟩,⟨.us (.rr (gS 16 (g4 (slE b ((5:Nat):Int))))),false⟩])))] rfl ((fun (W0:World) (G:Nat→Prop)=>SyOk.mk2 Try.mixed dkHo_ok (FnsR.cons (R_rget) (FnsR.nil)) EqsOk.nil) W0 G) (LpsOk.cons (by kernel_rfl) (mapG_sound (id:=12) ((fun (W0:World) (G:Nat→Prop)=>SyOk.mk2 Try.mixed dkHo_ok (FnsR.cons (R_rget) (FnsR.nil)) EqsOk.nil) W0 G) rfl (fun w e mem h=>bx_ok (W0:=W0) (G:=G) 7 w e mem h)) (LpsOk.cons (by kernel_rfl) (rei_lp L b (stH b X 5) (gA (slE b ((5:Nat):Int))) (gB (slE b ((5:Nat):Int))) (gC (slE b ((5:Nat):Int))) (g4 (slE b ((5:Nat):Int))) _ rfl) (LpsOk.nil _))) (m2:=_) (fun w e h=>h) [false] 2 ps h1 h2 rfl trivial
  |true=>
   have hk1:=of_decide_eq_true hT
   have hW:IntKind.i64.wrap ((k:Int)+1)=((k+1:Nat):Int):=by rw [IntWalk.i64_in _ (by omega)];omega
   have hW2:IntKind.i64.wrap (172 * (k:Int))=172 * (k:Int):=IntWalk.i64_in _ (by omega)
   have hl:=stH_len b X k
   have hi:0≤IntKind.i64.wrap (172 * (k:Int))∧IntKind.i64.wrap (172 * (k:Int))≤((8 * b.length - 0:Nat):Int):=by rw [hW2,hb];omega
   cases hq:inE (slE b (k:Int)) with
   |true=>
    obtain ⟨ps,h1,h2⟩:=rem_n1 L b (stH b X k) (stH b X (k+1)) (k:Int) ((k+1:Nat):Int) k f hT hW hi hq (by omega) (by simp only [stH,hq,cond_true])
    exact rnd_n (⟨Try.prog,[(129,ctrF Id' C_rget hardD)],[],dkHo,Id'.one,60⟩:Sy Td) [(100012,mapG (modAt toBx 7) (⟨Try.prog,[(129,ctrF Id' C_rget hardD)],[],dkHo,Id'.one,60⟩:Sy Td) 113 (regO 12 (bodyOf Try.f62)) (drwR 12 (bodyOf Try.f62))),(16,(lpG Id' 113 (hdC (loopsC (bodyOf Try.f62)) 2) 13 [(12,.c (.one (.v (.int .i64 ((0:Nat):Int))))),(11,.c (.one (.obj 13)))] [(8,.c (.one (.ptr 7 0)))] [⟨.us (.ext (.shr 1 L.length (tbE L))),false⟩,⟨.dead,true⟩,⟨.dead,true⟩,⟨.dead,true⟩,⟨.us (.rr (RS.new b)),false⟩,⟨.us (.ext (.flat (.rw 109 [true,false,false,false] (stH b X k)))),true⟩,⟨.dead,true⟩,⟨.bx [.obj 14,.v (.int .i64 (gS 0 (g4 (slE b (k:Int)))).err)],true⟩,⟨.dead,true⟩,⟨.dead,true⟩,⟨.dead,true⟩,⟨.dead,true⟩,⟨.blk [.v (.string ⟨#[]⟩),.v (.int .i64 (gA (slE b (k:Int)))),.v (.int .i64 (gB (slE b (k:Int)))),.v (.int .i64 (gC (slE b (k:Int))))],true⟩,⟨.us (.own (gL 0 (g4 (slE b (k:Int))))),true⟩,⟨.us (.rr (gS 0 (g4 (slE b (k:Int))))),false⟩] (.leaf (.exit 4) [(11,.c (.one (.obj 13)))] [⟨.us (.ext (.shr 1 L.length (tbE L))),false⟩,⟨.dead,true⟩,⟨.dead,true⟩,⟨.dead,true⟩,⟨.us (.rr (RS.new b)),false⟩,⟨.us (.ext (.flat (.rw 109 [true,false,false,false] (stH b X k)))),true⟩,⟨.dead,true⟩,⟨.bx [.obj 14,.v (.int .i64 (gS 16 (g4 (slE b (k:Int)))).err)],true⟩,⟨.dead,true⟩,⟨.dead,true⟩,⟨.dead,true⟩,⟨.dead,true⟩,⟨.blk [.v (.string ⟨#[]⟩),.v (.int .i64 (gA (slE b (k:Int)))),.v (.int .i64 (gB (slE b (k:Int)))),.v (.int .i64 (gC (slE b (k:Int))))],true⟩,⟨.us (.own (gL 16 (g4 (slE b (k:Int))))),true⟩,⟨.us (.rr (gS 16 (g4 (slE b (k:Int))))),false⟩])))] rfl ((fun (W0:World) (G:Nat→Prop)=>SyOk.mk2 Try.mixed dkHo_ok (FnsR.cons (R_rget) (FnsR.nil)) EqsOk.nil) W0 G) (LpsOk.cons (by kernel_rfl) (mapG_sound (id:=12) ((fun (W0:World) (G:Nat→Prop)=>SyOk.mk2 Try.mixed dkHo_ok (FnsR.cons (R_rget) (FnsR.nil)) EqsOk.nil) W0 G) rfl (fun w e mem h=>bx_ok (W0:=W0) (G:=G) 7 w e mem h)) (LpsOk.cons (by kernel_rfl) (rei_lp L b (stH b X k) (gA (slE b (k:Int))) (gB (slE b (k:Int))) (gC (slE b (k:Int))) (g4 (slE b (k:Int))) _ rfl) (LpsOk.nil _))) (m2:=_) (fun w e h=>h) [true,true] ps h1 h2 rfl rfl (by omega) (by omega)
   |false=>
    obtain ⟨ps,h1,h2⟩:=rem_n0 L b (stH b X k) (stH b X (k+1)) (k:Int) ((k+1:Nat):Int) k f hT hW hi hq (by simp only [stH,hq,cond_false])
    exact rnd_n (⟨Try.prog,[(129,ctrF Id' C_rget hardD)],[],dkHo,Id'.one,60⟩:Sy Td) [(100012,mapG (modAt toBx 7) (⟨Try.prog,[(129,ctrF Id' C_rget hardD)],[],dkHo,Id'.one,60⟩:Sy Td) 113 (regO 12 (bodyOf Try.f62)) (drwR 12 (bodyOf Try.f62))),(16,(lpG Id' 113 (hdC (loopsC (bodyOf Try.f62)) 2) 13 [(12,.c (.one (.v (.int .i64 ((0:Nat):Int))))),(11,.c (.one (.obj 13)))] [(8,.c (.one (.ptr 7 0)))] [⟨.us (.ext (.shr 1 L.length (tbE L))),false⟩,⟨.dead,true⟩,⟨.dead,true⟩,⟨.dead,true⟩,⟨.us (.rr (RS.new b)),false⟩,⟨.us (.ext (.flat (.rw 109 [true,false,false,false] (stH b X k)))),true⟩,⟨.dead,true⟩,⟨.bx [.obj 14,.v (.int .i64 (gS 0 (g4 (slE b (k:Int)))).err)],true⟩,⟨.dead,true⟩,⟨.dead,true⟩,⟨.dead,true⟩,⟨.dead,true⟩,⟨.blk [.v (.string ⟨#[]⟩),.v (.int .i64 (gA (slE b (k:Int)))),.v (.int .i64 (gB (slE b (k:Int)))),.v (.int .i64 (gC (slE b (k:Int))))],true⟩,⟨.us (.own (gL 0 (g4 (slE b (k:Int))))),true⟩,⟨.us (.rr (gS 0 (g4 (slE b (k:Int))))),false⟩] (.leaf (.exit 4) [(11,.c (.one (.obj 13)))] [⟨.us (.ext (.shr 1 L.length (tbE L))),false⟩,⟨.dead,true⟩,⟨.dead,true⟩,⟨.dead,true⟩,⟨.us (.rr (RS.new b)),false⟩,⟨.us (.ext (.flat (.rw 109 [true,false,false,false] (stH b X k)))),true⟩,⟨.dead,true⟩,⟨.bx [.obj 14,.v (.int .i64 (gS 16 (g4 (slE b (k:Int)))).err)],true⟩,⟨.dead,true⟩,⟨.dead,true⟩,⟨.dead,true⟩,⟨.dead,true⟩,⟨.blk [.v (.string ⟨#[]⟩),.v (.int .i64 (gA (slE b (k:Int)))),.v (.int .i64 (gB (slE b (k:Int)))),.v (.int .i64 (gC (slE b (k:Int))))],true⟩,⟨.us (.own (gL 16 (g4 (slE b (k:Int))))),true⟩,⟨.us (.rr (gS 16 (g4 (slE b (k:Int))))),false⟩])))] rfl ((fun (W0:World) (G:Nat→Prop)=>SyOk.mk2 Try.mixed dkHo_ok (FnsR.cons (R_rget) (FnsR.nil)) EqsOk.nil) W0 G) (LpsOk.cons (by kernel_rfl) (mapG_sound (id:=12) ((fun (W0:World) (G:Nat→Prop)=>SyOk.mk2 Try.mixed dkHo_ok (FnsR.cons (R_rget) (FnsR.nil)) EqsOk.nil) W0 G) rfl (fun w e mem h=>bx_ok (W0:=W0) (G:=G) 7 w e mem h)) (LpsOk.cons (by kernel_rfl) (rei_lp L b (stH b X k) (gA (slE b (k:Int))) (gB (slE b (k:Int))) (gC (slE b (k:Int))) (g4 (slE b (k:Int))) _ rfl) (LpsOk.nil _))) (m2:=_) (fun w e h=>h) [true,false] ps h1 h2 rfl rfl (by omega) (by omega)
 ·revert hU
  match x with
  |.normal=>intro hU;cases hU
  |.ret=>intro hU;cases hU
  |.exit n=>
   intro hU
   by_cases h:n=2
   ·subst h;simp only [Option.some.injEq] at hU;subst hU;exact hK
   ·exfalso;split at hU
    ·rename_i he;cases he;exact h rfl
    ·cases hU
end Go.Proofs.Ytdenmoiaiemokaa
set_option linter.unusedVariables false
set_option linter.unusedSimpArgs false
namespace Go.Proofs.Ytdenmoiaiemokaa
open Go.RowKit
set_option maxRecDepth 100000 in
theorem reo_n (L:List (List UInt8)) (X Y:List Rw) (i i2:Int) (k:Nat) (f:Nat→Value) (h0:decide (i<(L.length:Int))=true) (h1:IntKind.i64.wrap (i+1)=i2) (h2:(0:Int)≤i∧i.toNat<L.length) (h3:(((L.getD i.toNat []).length:Int) != (128:Int))=false) (h4:(L.getD i.toNat []).length≤(100000:Nat)) (h5:stH (L.getD i.toNat []) X 5=Y):∃ qs,alN Id' 1 [(5,.c (.one (.v (.int .i64 i2)))),(4,.c (.one (.obj 1)))] [⟨.us (.ext (.shr 1 L.length (tbE L))),false⟩,⟨.us (.ext (.flat (.rw 109 [true,false,false,false] Y))),true⟩] ((symC (⟨Try.prog,[(128,ctrF Id' C_rof hardD)],[],dkHo,Id'.one,60⟩:Sy Td) [(9,(lpG Id' 113 (hdC (loopsC (bodyOf Try.f62)) 1) 5 [(7,.c (.one (.v (.int .i64 ((0:Nat):Int))))),(4,.c (.one (.obj 5)))] [(6,.c (.one (.obj 4)))] [⟨.us (.ext (.shr 1 L.length (tbE L))),false⟩,⟨.dead,true⟩,⟨.dead,true⟩,⟨.dead,true⟩,⟨.us (.rr (RS.new (L.getD i.toNat []))),false⟩,⟨.us (.ext (.flat (.rw 109 [true,false,false,false] (stH (L.getD i.toNat []) X 0)))),true⟩] (.leaf (.exit 2) [(4,.c (.one (.obj 5)))] [⟨.us (.ext (.shr 1 L.length (tbE L))),false⟩,⟨.dead,true⟩,⟨.dead,true⟩,⟨.dead,true⟩,⟨.us (.rr (RS.new (L.getD i.toNat []))),false⟩,⟨.us (.ext (.flat (.rw 109 [true,false,false,false] (stH (L.getD i.toNat []) X 5)))),true⟩])))] 113 (hdC (loopsC (bodyOf Try.f62)) 0) ⟨[(5,.c (.one (.v (.int .i64 i)))),(4,.c (.one (.obj 1)))]++anyB' (writesC (hdC (loopsC (bodyOf Try.f62)) 0)) ([(0,.c (.one (.obj 0)))]++tabV f 113),[⟨.us (.ext (.shr 1 L.length (tbE L))),false⟩,⟨.us (.ext (.flat (.rw 109 [true,false,false,false] X))),true⟩],0⟩).al [true,false])=some qs∧∀ q∈qs,q:=
 ⟨[decide (i<(↑L.length:Int))=true,(0:Int)≤i∧i.toNat<L.length,((↑(L.getD i.toNat []).length:Int) != (128:Int))=false,(L.getD i.toNat []).length≤(100000:Nat),(0:Int)≤i∧i.toNat<L.length,Th.ext (Dk.shr 1 L.length (tbE L))=Th.ext (Dk.shr 1 L.length (tbE L)),(Th.rr (RS.new (L.getD i.toNat [])):Td)=Th.rr (RS.new (L.getD i.toNat [])),Th.ext (Dk.flat (FL.rw 109 [true,false,false,false] X))=Th.ext (Dk.flat (FL.rw 109 [true,false,false,false] X)),Value.int IntKind.i64 (Int.ofNat 0)=Value.int IntKind.i64 (Int.ofNat (0:Nat)),Th.ext (Dk.shr 1 L.length (tbE L))=Th.ext (Dk.shr 1 L.length (tbE L)),Th.ext (Dk.flat (FL.rw 109 [true,false,false,false] (stH (L.getD i.toNat []) X (5:Nat))))=Th.ext (Dk.flat (FL.rw 109 [true,false,false,false] Y)),Value.int IntKind.i64 (IntKind.i64.wrap (i+(1:Int)))=Value.int IntKind.i64 i2],by kernel_rfl,(by refine mcons ?_ (mcons ?_ (mcons ?_ (mcons ?_ (mcons ?_ (mcons ?_ (mcons ?_ (mcons ?_ (mcons ?_ (mcons ?_ (mcons ?_ (mcons ?_ mnil)))))))))))<;>first|rfl|exact h0|exact h1|exact h2|exact h3|exact h4|exact h5|trivial|(exact congrArg (fun x=>(Th.ext (Dk.flat (FL.rw 109 [true,false,false,false] x)):Td)) h5)|(exact congrArg (Value.int .i64) h1))⟩
set_option maxRecDepth 100000 in
theorem reo_r (L:List (List UInt8)) (X:List Rw) (i:Int) (k:Nat) (f:Nat→Value) (h0:decide (i<(L.length:Int))=true) (h1:(0:Int)≤i∧i.toNat<L.length) (h2:(((L.getD i.toNat []).length:Int) != (128:Int))=true):∃ qs,alR Id' 1 [(2,.c (.one (.v (.slice none 0 0)))),(3,.c (.one (.kI .i64 4)))] [⟨.us (.ext (.shr 1 L.length (tbE L))),false⟩,⟨.dead,true⟩] ((symC (⟨Try.prog,[(128,ctrF Id' C_rof hardD)],[],dkHo,Id'.one,60⟩:Sy Td) [] 113 (hdC (loopsC (bodyOf Try.f62)) 0) ⟨[(5,.c (.one (.v (.int .i64 i)))),(4,.c (.one (.obj 1)))]++anyB' (writesC (hdC (loopsC (bodyOf Try.f62)) 0)) ([(0,.c (.one (.obj 0)))]++tabV f 113),[⟨.us (.ext (.shr 1 L.length (tbE L))),false⟩,⟨.us (.ext (.flat (.rw 109 [true,false,false,false] X))),true⟩],0⟩).al [true,true])=some qs∧∀ q∈qs,q:=
 ⟨[decide (i<(↑L.length:Int))=true,(0:Int)≤i∧i.toNat<L.length,((↑(L.getD i.toNat []).length:Int) != (128:Int))=true,Th.ext (Dk.shr 1 L.length (tbE L))=Th.ext (Dk.shr 1 L.length (tbE L)),Value.slice none 0 0=Value.slice none 0 0,Value.int IntKind.i64 (Int.ofNat 4)=Value.int IntKind.i64 (Int.ofNat 4)],by kernel_rfl,(by refine mcons ?_ (mcons ?_ (mcons ?_ (mcons ?_ (mcons ?_ (mcons ?_ mnil)))))<;>first|rfl|exact h0|exact h1|exact h2|trivial)⟩
set_option maxRecDepth 100000 in
theorem reo_x (L:List (List UInt8)) (X Y:List Rw) (i i2:Int) (k:Nat) (f:Nat→Value) (h0:decide (i<(L.length:Int))=false) (h1:X=Y):∃ qs,alX Id' 1 0 [(4,.c (.one (.obj 1)))] [⟨.us (.ext (.shr 1 L.length (tbE L))),false⟩,⟨.us (.ext (.flat (.rw 109 [true,false,false,false] Y))),true⟩] ((symC (⟨Try.prog,[(128,ctrF Id' C_rof hardD)],[],dkHo,Id'.one,60⟩:Sy Td) [] 113 (hdC (loopsC (bodyOf Try.f62)) 0) ⟨[(5,.c (.one (.v (.int .i64 i)))),(4,.c (.one (.obj 1)))]++anyB' (writesC (hdC (loopsC (bodyOf Try.f62)) 0)) ([(0,.c (.one (.obj 0)))]++tabV f 113),[⟨.us (.ext (.shr 1 L.length (tbE L))),false⟩,⟨.us (.ext (.flat (.rw 109 [true,false,false,false] X))),true⟩],0⟩).al [false])=some qs∧∀ q∈qs,q:=
 ⟨[decide (i<(↑L.length:Int))=false,Th.ext (Dk.shr 1 L.length (tbE L))=Th.ext (Dk.shr 1 L.length (tbE L)),Th.ext (Dk.flat (FL.rw 109 [true,false,false,false] X))=Th.ext (Dk.flat (FL.rw 109 [true,false,false,false] Y))],by kernel_rfl,(by refine mcons ?_ (mcons ?_ (mcons ?_ mnil))<;>first|rfl|exact h0|exact h1|trivial|(exact congrArg (fun x=>(Th.ext (Dk.flat (FL.rw 109 [true,false,false,false] x)):Td)) h1))⟩
set_option maxRecDepth 100000 in
theorem reo_lpA (L:List (List UInt8)) (hL:L.length≤1000) (hw:∀ j,j<L.length→(L.getD j []).length=128) {W0:World} {G:Nat→Prop} (S0:Sy Td) (hS0:S0.P=Try.prog):LoopSound S0 Id' W0 G 113 (hdC (loopsC (bodyOf Try.f62)) 0) (lpG Id' 113 (hdC (loopsC (bodyOf Try.f62)) 0) 1 [(5,.c (.one (.v (.int .i64 ((0:Nat):Int))))),(4,.c (.one (.obj 1)))] [(0,.c (.one (.obj 0)))] [⟨.us (.ext (.shr 1 L.length (tbE L))),false⟩,⟨.us (.ext (.flat (.rw 109 [true,false,false,false] (stR L 0)))),true⟩] (.leaf (.exit 0) [(4,.c (.one (.obj 1)))] [⟨.us (.ext (.shr 1 L.length (tbE L))),false⟩,⟨.us (.ext (.flat (.rw 109 [true,false,false,false] (stR L L.length)))),true⟩])):=by
 refine lp_sound (V:=fun k=>[(5,.c (.one (.v (.int .i64 (k:Int))))),(4,.c (.one (.obj 1)))]) (M:=(fun k=>[⟨.us (.ext (.shr 1 L.length (tbE L))),false⟩,⟨.us (.ext (.flat (.rw 109 [true,false,false,false] (stR L k)))),true⟩]:Nat→Mem Td)) (N:=L.length) (Ux:=fun k x=>match x with|.exit 0=>some ([(4,.c (.one (.obj 1)))],([⟨.us (.ext (.shr 1 L.length (tbE L))),false⟩,⟨.us (.ext (.flat (.rw 109 [true,false,false,false] (stR L L.length)))),true⟩]:Mem Td))|_=>none) (X:=fun _ _=>True) (J:=fun k=>k≤L.length∧∀ j,j<k→(L.getD j []).length=128) (fun k=>by kernel_rfl) ⟨Nat.zero_le _,fun j hj=>absurd hj (Nat.not_lt_zero j)⟩ (fun k hk hJ f=>?_) (fun K hK k x U hk hU hX=>?_)
 ·rw [hS0]
  have hl:=stR_len L k
  cases hT:decide ((k:Int)<(L.length:Int)) with
  |false=>
   have hke:k=L.length:=by have:=of_decide_eq_false hT;have:=hJ.1;omega
   exact rnd_xD (⟨Try.prog,[(128,ctrF Id' C_rof hardD)],[],dkHo,Id'.one,60⟩:Sy Td) rfl ((fun (W0:World) (G:Nat→Prop)=>SyOk.mk2 Try.mixed dkHo_ok (FnsR.cons (R_rof) (FnsR.nil)) EqsOk.nil) W0 G) (reo_x L (stR L k) (stR L L.length) (k:Int) 0 k f hT (by rw [hke])) rfl trivial
  |true=>
   have hk1:=of_decide_eq_true hT
   have hW:IntKind.i64.wrap ((k:Int)+1)=((k+1:Nat):Int):=by rw [IntWalk.i64_in _ (by omega)];omega
   by_cases hq:(L.getD k []).length=128
   ·have hq':(L.getD ((k:Int)).toNat []).length=128:=by rw [Int.toNat_natCast];exact hq
    obtain ⟨ps,h1,h2⟩:=reo_n L (stR L k) (stR L (k+1)) (k:Int) ((k+1:Nat):Int) k f hT hW ⟨by omega,by omega⟩ (by rw [hq'];rfl) (by omega) (by rw [Int.toNat_natCast];rfl)
    exact rnd_n (⟨Try.prog,[(128,ctrF Id' C_rof hardD)],[],dkHo,Id'.one,60⟩:Sy Td) [(9,(lpG Id' 113 (hdC (loopsC (bodyOf Try.f62)) 1) 5 [(7,.c (.one (.v (.int .i64 ((0:Nat):Int))))),(4,.c (.one (.obj 5)))] [(6,.c (.one (.obj 4)))] [⟨.us (.ext (.shr 1 L.length (tbE L))),false⟩,⟨.dead,true⟩,⟨.dead,true⟩,⟨.dead,true⟩,⟨.us (.rr (RS.new (L.getD ((k:Int)).toNat []))),false⟩,⟨.us (.ext (.flat (.rw 109 [true,false,false,false] (stH (L.getD ((k:Int)).toNat []) (stR L k) 0)))),true⟩] (.leaf (.exit 2) [(4,.c (.one (.obj 5)))] [⟨.us (.ext (.shr 1 L.length (tbE L))),false⟩,⟨.dead,true⟩,⟨.dead,true⟩,⟨.dead,true⟩,⟨.us (.rr (RS.new (L.getD ((k:Int)).toNat []))),false⟩,⟨.us (.ext (.flat (.rw 109 [true,false,false,false] (stH (L.getD ((k:Int)).toNat []) (stR L k) 5)))),true⟩])))] rfl ((fun (W0:World) (G:Nat→Prop)=>SyOk.mk2 Try.mixed dkHo_ok (FnsR.cons (R_rof) (FnsR.nil)) EqsOk.nil) W0 G) (LpsOk.cons (by kernel_rfl) (rem_lp L (L.getD ((k:Int)).toNat []) (stR L k) hq' (by omega) _ rfl) (LpsOk.nil _)) (m2:=_) (fun w e h=>h) [true,false] ps h1 h2 rfl rfl (by omega) ⟨by omega,fun j hj=>by
     by_cases he:j=k
     ·subst he;exact hq
     ·exact hJ.2 j (by omega)⟩
   ·exact absurd (hw k (by omega)) hq
 ·revert hU
  match x with
  |.exit 0=>intro hU;simp only [Option.some.injEq] at hU;subst hU;exact hK
  |.normal=>intro hU;cases hU
  |.ret=>intro hU;cases hU
  |.exit (n+1)=>intro hU;cases hU
set_option maxRecDepth 100000 in
theorem reo_lpR (L:List (List UInt8)) (hL:L.length≤1000) (hw:∃ j,j<L.length∧(L.getD j []).length≠128) {W0:World} {G:Nat→Prop} (S0:Sy Td) (hS0:S0.P=Try.prog):LoopSound S0 Id' W0 G 113 (hdC (loopsC (bodyOf Try.f62)) 0) (lpG Id' 113 (hdC (loopsC (bodyOf Try.f62)) 0) 1 [(5,.c (.one (.v (.int .i64 ((0:Nat):Int))))),(4,.c (.one (.obj 1)))] [(0,.c (.one (.obj 0)))] [⟨.us (.ext (.shr 1 L.length (tbE L))),false⟩,⟨.us (.ext (.flat (.rw 109 [true,false,false,false] (stR L 0)))),true⟩] (.leaf .ret [(2,.c (.one (.v (.slice none 0 0)))),(3,.c (.one (.kI .i64 4)))] [⟨.us (.ext (.shr 1 L.length (tbE L))),false⟩,⟨.dead,true⟩])):=by
 refine lp_sound (V:=fun k=>[(5,.c (.one (.v (.int .i64 (k:Int))))),(4,.c (.one (.obj 1)))]) (M:=(fun k=>[⟨.us (.ext (.shr 1 L.length (tbE L))),false⟩,⟨.us (.ext (.flat (.rw 109 [true,false,false,false] (stR L k)))),true⟩]:Nat→Mem Td)) (N:=L.length) (Ux:=fun k x=>match x with|.ret=>some ([(2,.c (.one (.v (.slice none 0 0)))),(3,.c (.one (.kI .i64 4)))],([⟨.us (.ext (.shr 1 L.length (tbE L))),false⟩,⟨.dead,true⟩]:Mem Td))|_=>none) (X:=fun _ _=>True) (J:=fun k=>k≤L.length∧∀ j,j<k→(L.getD j []).length=128) (fun k=>by kernel_rfl) ⟨Nat.zero_le _,fun j hj=>absurd hj (Nat.not_lt_zero j)⟩ (fun k hk hJ f=>?_) (fun K hK k x U hk hU hX=>?_)
 ·rw [hS0]
  have hl:=stR_len L k
  cases hT:decide ((k:Int)<(L.length:Int)) with
  |false=>
   have hke:k=L.length:=by have:=of_decide_eq_false hT;have:=hJ.1;omega
   obtain ⟨j,j1,j2⟩:=hw
   exact absurd (hJ.2 j (by omega)) j2
  |true=>
   have hk1:=of_decide_eq_true hT
   have hW:IntKind.i64.wrap ((k:Int)+1)=((k+1:Nat):Int):=by rw [IntWalk.i64_in _ (by omega)];omega
   by_cases hq:(L.getD k []).length=128
   ·have hq':(L.getD ((k:Int)).toNat []).length=128:=by rw [Int.toNat_natCast];exact hq
    obtain ⟨ps,h1,h2⟩:=reo_n L (stR L k) (stR L (k+1)) (k:Int) ((k+1:Nat):Int) k f hT hW ⟨by omega,by omega⟩ (by rw [hq'];rfl) (by omega) (by rw [Int.toNat_natCast];rfl)
    exact rnd_n (⟨Try.prog,[(128,ctrF Id' C_rof hardD)],[],dkHo,Id'.one,60⟩:Sy Td) [(9,(lpG Id' 113 (hdC (loopsC (bodyOf Try.f62)) 1) 5 [(7,.c (.one (.v (.int .i64 ((0:Nat):Int))))),(4,.c (.one (.obj 5)))] [(6,.c (.one (.obj 4)))] [⟨.us (.ext (.shr 1 L.length (tbE L))),false⟩,⟨.dead,true⟩,⟨.dead,true⟩,⟨.dead,true⟩,⟨.us (.rr (RS.new (L.getD ((k:Int)).toNat []))),false⟩,⟨.us (.ext (.flat (.rw 109 [true,false,false,false] (stH (L.getD ((k:Int)).toNat []) (stR L k) 0)))),true⟩] (.leaf (.exit 2) [(4,.c (.one (.obj 5)))] [⟨.us (.ext (.shr 1 L.length (tbE L))),false⟩,⟨.dead,true⟩,⟨.dead,true⟩,⟨.dead,true⟩,⟨.us (.rr (RS.new (L.getD ((k:Int)).toNat []))),false⟩,⟨.us (.ext (.flat (.rw 109 [true,false,false,false] (stH (L.getD ((k:Int)).toNat []) (stR L k) 5)))),true⟩])))] rfl ((fun (W0:World) (G:Nat→Prop)=>SyOk.mk2 Try.mixed dkHo_ok (FnsR.cons (R_rof) (FnsR.nil)) EqsOk.nil) W0 G) (LpsOk.cons (by kernel_rfl) (rem_lp L (L.getD ((k:Int)).toNat []) (stR L k) hq' (by omega) _ rfl) (LpsOk.nil _)) (m2:=_) (fun w e h=>h) [true,false] ps h1 h2 rfl rfl (by omega) ⟨by omega,fun j hj=>by
     by_cases he:j=k
     ·subst he;exact hq
     ·exact hJ.2 j (by omega)⟩
   ·exact rnd_rD (⟨Try.prog,[(128,ctrF Id' C_rof hardD)],[],dkHo,Id'.one,60⟩:Sy Td) rfl ((fun (W0:World) (G:Nat→Prop)=>SyOk.mk2 Try.mixed dkHo_ok (FnsR.cons (R_rof) (FnsR.nil)) EqsOk.nil) W0 G) (reo_r L (stR L k) (k:Int) k f hT ⟨by omega,by omega⟩ (by rw [Int.toNat_natCast];simp only [bne_iff_ne,ne_eq];omega)) rfl trivial
 ·revert hU
  match x with
  |.ret=>intro hU;simp only [Option.some.injEq] at hU;subst hU;exact hK
  |.normal=>intro hU;cases hU
  |.exit n=>intro hU;cases hU
end Go.Proofs.Ytdenmoiaiemokaa
set_option linter.unusedVariables false
set_option linter.unusedSimpArgs false
namespace Go.Proofs.Ytdenmoiaiemokaa
open Go.RowKit
def Blind (P:Program) {α:Type} (s:Sem α):Prop:=∀ w r w0,s.run P w=.ok r w0→w0=w∧∀ w',s.run P w'=.ok r w'
section
variable {P:Program} {α β:Type}
theorem blind_pure (x:α):Blind P (pure x:Sem α):=fun w r w0 h=>by
 rw [Sem.run_pure] at h
 cases h
 exact ⟨rfl,fun w'=>Sem.run_pure ..⟩
theorem blind_bind {s:Sem α} {f:α→Sem β} (hs:Blind P s) (hf:∀ a,Blind P (f a)):Blind P (s >>= f):=fun w r w0 h=>by
 rw [Sem.run_bind] at h
 cases hr:s.run P w with
 |ok a w1=>
  rw [hr,Result.andThen_ok] at h
  obtain ⟨rfl,h2⟩:=hs w a w1 hr
  obtain ⟨rfl,h4⟩:=hf a _ r w0 h
  exact ⟨rfl,fun w'=>by rw [Sem.run_bind,h2 w',Result.andThen_ok];exact h4 w'⟩
 |halt x w1=>rw [hr] at h;cases h
theorem blind_never {s:Sem α} (h:∀ w r w0,s.run P w≠.ok r w0):Blind P s:=fun w r w0 h'=>absurd h' (h w r w0)
theorem blind_program {f:Program→Sem α} (h:∀ p,Blind P (f p)):Blind P (program >>= f):=fun w r w0 hr=>h P w r w0 hr
theorem blind_halt (h:Halt):Blind P (.halt h:Sem α):=blind_never fun w r w0 h=>by cases h
theorem blind_stuck (s:String):Blind P (stuck s:Sem α):=blind_halt _
theorem blind_unsupported (u:Unsupported):Blind P (unsupported u:Sem α):=blind_halt _
def Never (P:Program) {α:Type} (s:Sem α):Prop:=∀ w r w0,s.run P w≠.ok r w0
theorem never_bind {s:Sem α} {f:α→Sem β} (hf:∀ a,Never P (f a)):Never P (s >>= f):=fun w r w0 h=>by
 rw [Sem.run_bind] at h
 cases hr:s.run P w with
 |ok a w1=>rw [hr,Result.andThen_ok] at h;exact hf a _ _ _ h
 |halt x w1=>rw [hr] at h;cases h
theorem blind_asIntOf (v:Value):Blind P (asIntOf v):=by
 unfold asIntOf
 split
 ·exact blind_pure _
 ·exact blind_unsupported _
 ·exact blind_stuck _
theorem blind_underlying (t:TypeId):Blind P (underlying t):=by
 unfold underlying
 refine blind_program fun p=>?_
 split
 ·exact blind_pure _
 ·exact blind_stuck _
theorem blind_sizeOf (t:TypeId):Blind P (sizeOf t):=by
 unfold sizeOf typeInfo
 refine blind_bind (blind_program fun p=>?_) fun i=>blind_pure _
 split
 ·exact blind_pure _
 ·exact blind_stuck _
theorem blind_sureAddr (v:Value):Blind P (Instr.sureAddr v):=by
 unfold Instr.sureAddr
 split
 ·exact blind_pure _
 ·exact blind_stuck _
theorem never_goPanic (v:Value):Never P (goPanic v:Sem α):=fun w r w0 h=>by cases h
theorem never_bounds (k:IntKind) (x y:Int) (c:BoundsCode):Never P (boundsPanic k x y c:Sem α):=by
 have hj:∀ s,Never P (runtimePanic (.bounds (IntKind.i64.wrap x) y s c):Sem α):=fun s=>by
  unfold runtimePanic
  exact never_bind fun p=>never_goPanic _
 unfold boundsPanic
 extract_lets jp
 split
 ·exact never_bind fun s=>hj s
 ·exact never_bind fun s=>hj s
theorem blind_bounds (k:IntKind) (x y:Int) (c:BoundsCode):Blind P (boundsPanic k x y c:Sem α):=blind_never (never_bounds k x y c)
theorem blind_indexAt (t:TypeId) (x i:Value):Blind P (Instr.indexAt t x i):=by
 unfold Instr.indexAt
 refine blind_bind (blind_asIntOf _) fun ki=>?_
 refine blind_bind (blind_underlying _) fun d=>?_
 repeat' first|exact blind_pure _|exact blind_stuck _|exact blind_unsupported _|exact blind_sizeOf _|exact blind_underlying _|exact blind_sureAddr _|exact blind_bounds _ _ _ _|refine blind_bind ?_ fun _=>?_|split|dsimp only|(extract_lets;split)
end
end Go.Proofs.Ytdenmoiaiemokaa
set_option linter.unusedVariables false
set_option linter.unusedSimpArgs false
namespace Go.Proofs.Ytdenmoiaiemokaa
open Go.RowKit
section
variable {W0:World} {G:Nat→Prop} {w:World} {e:Env} {mem:Mem Td}
theorem tab_load_uni {tb:TB} {i:Nat} {mu:Bool} {idx:Int} (hM:MemOk W0 G Id' w e mem) (hm:mem[i]? =some ⟨.us (.ext (.tab tb)),mu⟩) {o:Oper} {ρ:Operand→Value} {x:Operand} (ho:o.op=.load 29 x) (ha:AllC e [.one (.elt i (tb.k+1) idx tb.k)] [ρ x]):
  ∃ v,(∀ w',Ext w w'→(execOp ρ o).run Try.prog w'=.ok (.value v) w')∧MemOk W0 G Id' w (e++[v]) (mem++[⟨.us (.byt (tb.byt idx)),false⟩]):=by
 have ha:=is_one ha.1
 obtain ⟨b,oo,n,cap,hE,hi,hx⟩:=ha
 obtain ⟨h0,h1,vals,hl,⟨B,hB,hown⟩,hr⟩:=hM.holds i _ _ hE hm
 have hR:=Rs.of_owns hown
 obtain ⟨ao,cap',he,_,_,_,_,h5⟩:=hR.open
 cases he
 obtain ⟨i1,i2⟩:=hi
 have hri:tb.R[idx.toNat]? =some (elB tb.R idx):=by unfold elB;rw [List.getD_eq_getElem?_getD,List.getElem?_eq_getElem i2];rfl
 have hvi:vals[idx.toNat]? =some (vals.getD idx.toNat undef):=by rw [List.getD_eq_getElem?_getD,List.getElem?_eq_getElem (by omega)];rfl
 rw [← TB.byt_eq]
 have hcell:=h5 _ rfl _ _ (tabCells_get hl h0 idx.toNat _ hvi)
 rw [Addr.add_mid] at hcell
 obtain ⟨hbs,hne⟩:=hr _ _ _ hvi hri
 refine ⟨vals.getD idx.toNat undef,fun w' hw=>?_,hM.share _ (.us (.byt (elB tb.R idx).2)) hbs fun kk hk=>?_⟩
 ·have hcell':=hw.cell hcell
  obtain ⟨u,k1,k2⟩:=loadPart (P:=Try.prog) (e:=[]) (w:=w') (ty:=29) (cells:=[PV.v (vals.getD idx.toNat undef)]) (off:=0) (y:=.one (.v (vals.getD idx.toNat undef))) (by kernel_rfl) (b:=b) (o:=oo+(idx.toNat * (tb.k+1)+tb.k)) (fun j p hj=>by
   match j,hj with
   |0,hj=>simp at hj;subst hj;exact ⟨_,hcell',rfl⟩
   |j+1,hj=>simp at hj)
  have:u=vals.getD idx.toNat undef:=k2
  subst this
  exact run_load ho hx k1
 ·obtain ⟨hk1,hk2⟩:=hk
  refine ⟨i,_,_,hE,hm,.inr ⟨idx.toNat,_,_,hri,hk1,tab_at hl h0 hown hvi,hk2⟩,fun _ hk=>hne kk hk1 hk2 hk⟩
theorem shr_load_uni {sz n i off:Nat} {mu:Bool} {idx:Int} {el:Nat→List CD} {l:List UInt8} (hM:MemOk W0 G Id' w e mem) (hm:mem[i]? =some ⟨.us (.ext (.shr sz n el)),mu⟩) (hoff:off<sz) (hel:(el idx.toNat)[off]? =some (.bs l)) {o:Oper} {ρ:Operand→Value} {x:Operand} (ho:o.op=.load 29 x) (ha:AllC e [.one (.elt i sz idx off)] [ρ x]):
  ∃ v,(∀ w',Ext w w'→(execOp ρ o).run Try.prog w'=.ok (.value v) w')∧MemOk W0 G Id' w (e++[v]) (mem++[⟨.us (.byt l),false⟩]):=by
 have ha:=is_one ha.1
 obtain ⟨b,oo,n',cap,hE,hi,hx⟩:=ha
 obtain ⟨h0,vals,hR,hc⟩:=hM.holds i _ _ hE hm
 have hR':=hR
 obtain ⟨hlen,ao,cap',he,_,_,_,h5⟩:=hR'
 cases he
 obtain ⟨i1,i2⟩:=hi
 have hlt:=slot_lt i2 hoff
 have hvi:vals[idx.toNat * sz+off]? =some (vals.getD (idx.toNat * sz+off) undef):=by rw [List.getD_eq_getElem?_getD,List.getElem?_eq_getElem (by omega)];rfl
 have hcell:=h5 _ rfl _ _ hvi
 rw [Addr.add_mid] at hcell
 have hbs:Bs w (vals.getD (idx.toNat * sz+off) undef) l:=hc idx.toNat off _ _ i2 hoff hel hvi
 refine ⟨vals.getD (idx.toNat * sz+off) undef,fun w' hw=>?_,hM.share _ (.us (.byt l)) hbs fun kk hk=>?_⟩
 ·have hcell':=hw.cell hcell
  obtain ⟨u,k1,k2⟩:=loadPart (P:=Try.prog) (e:=[]) (w:=w') (ty:=29) (cells:=[PV.v (vals.getD (idx.toNat * sz+off) undef)]) (off:=0) (y:=.one (.v (vals.getD (idx.toNat * sz+off) undef))) (by kernel_rfl) (b:=b) (o:=oo+(idx.toNat * sz+off)) (fun j p hj=>by
   match j,hj with
   |0,hj=>simp at hj;subst hj;exact ⟨_,hcell',rfl⟩
   |j+1,hj=>simp at hj)
  have:u=vals.getD (idx.toNat * sz+off) undef:=k2
  subst this
  exact run_load ho hx k1
 ·obtain ⟨hk1,hk2⟩:=hk
  exact ⟨i,_,_,hE,hm,.inr ⟨idx.toNat,off,_,_,i2,hoff,hel,hk1,cd_at hR hvi,hk2⟩,fun _ hk=>hk.elim⟩
end
end Go.Proofs.Ytdenmoiaiemokaa
set_option linter.unusedVariables false
set_option linter.unusedSimpArgs false
namespace Go.Proofs.Ytdenmoiaiemokaa
open Go.RowKit
section
variable {S:Sy Td} {W0:World} {G:Nat→Prop} {base:List (Nat×SV)} {sz:Nat} {l:List Oper}
theorem vwrap {P:Program} {s:Sem Value} (hs:Blind P s):Blind P (do pure (Next.value (← s)):Sem Next)∧∀ w r w1,(do pure (Next.value (← s)):Sem Next).run P w=.ok r w1→∃ v,r=.value v:=by
 refine ⟨blind_bind hs fun _=>blind_pure _,fun w r w1 h=>?_⟩
 rw [Sem.run_bind] at h
 cases hr:s.run P w with
 |ok a w2=>rw [hr,Result.andThen_ok,Sem.run_pure] at h;cases h;exact ⟨_,rfl⟩
 |halt x w2=>rw [hr] at h;cases h
theorem blind_not (x:Value) {P:Program}:Blind P (Op.unary .not x):=by
 cases x<;>first|exact blind_pure _|exact blind_stuck _
def okQ (o:Oper):Bool:=match o.op with
 |.move _=>true
 |.indexAddr _ _ _=>true
 |.unOp .not _ _=>true
 |_=>false
def isCallQ (o:Oper):Bool:=match o.op with
 |.call { callee:=.value _,args:=_,argTypes:=_ }=>true
 |_=>false
theorem okQ_blind {o:Oper} (h:okQ o=true) (P:Program) (ρ:Operand→Value):Blind P (execOp ρ o)∧∀ w r w1,(execOp ρ o).run P w=.ok r w1→∃ v,r=.value v:=by
 unfold okQ at h
 split at h
 ·rename_i x hop
  unfold execOp
  simp only [hop]
  exact ⟨blind_pure _,fun w r w1 h=>by rw [Sem.run_pure] at h;cases h;exact ⟨_,rfl⟩⟩
 ·rename_i t x ix hop
  unfold execOp
  simp only [hop]
  exact vwrap (blind_indexAt _ _ _)
 ·rename_i t x hop
  unfold execOp
  simp only [hop]
  exact vwrap (blind_not _)
 ·cases h
def valQ:SV→Option Value
 |.c (.one (.v x))=>some x
 |.c (.one (.kB b))=>some (.bool b)
 |.c (.one (.kI k n))=>some (.int k n)
 |_=>none
theorem valQ_is {e:Env} {s:SV} {x u:Value} (h:valQ s=some x) (hs:s.is e u):u=x:=by
 unfold valQ at h
 split at h
 ·cases h;exact hs
 ·cases h;exact hs
 ·cases h;exact hs
 ·cases h
theorem valQ_self {e:Env} {s:SV} {x:Value} (h:valQ s=some x):s.is e x:=by
 unfold valQ at h
 split at h
 ·cases h;rfl
 ·cases h;rfl
 ·cases h;rfl
 ·cases h
def rowQ (recs:List SRec) (base:List (Nat×SV)) (mem:Mem Td) (o:Oper):Option (Mem Td):=match o.op with
 |.load t x=>(match pvS (lookS recs base [] x) with
  |some (.elt i n idx off)=>(match mem[i]? with
   |some ⟨.us (.ext (.tab tb)),_⟩=>(match eqb n (tb.k+1)&&(eqb off tb.k&&eqb t 29) with
    |true=>some (mem++[⟨.us (.byt (tb.byt idx)),false⟩])
    |false=>none)
   |some ⟨.us (.ext (.shr sz _ el)),_⟩=>(match eqb n sz&&(leb (off+1) sz&&eqb t 29),(el idx.toNat)[off]? with
    |true,some (.bs l)=>some (mem++[⟨.us (.byt l),false⟩])
    |_,_=>none)
   |_=>none)
  |_=>none)
 |_=>none
def runQ (S:Sy Td) (base:List (Nat×SV)) (sz:Nat):List Oper→Nat→List SRec→Mem Td→List Prop→Option (List SRec×Mem Td×List Prop)
 |[],_,recs,mem,ps=>some (recs,mem,ps)
 |o::os,i,recs,mem,ps=>match (match o.dst with|none=>true|some t=>leb (t+1) sz),o.guard with
  |true,none=>(match rowQ recs base mem o with
   |some m'=>forceN (i+1) fun j=>runQ S base sz os j (⟨i,o.dst,[],.c (.one (.obj mem.length))⟩::recs) m' ps
   |none=>(match evalOp S recs base mem [] false o with
    |some (sv,none,qs)=>(match okQ o||(isCallQ o&&(valQ sv).isSome) with
     |true=>forceN (i+1) fun j=>runQ S base sz os j (⟨i,o.dst,[],sv⟩::recs) mem (qs++ps)
     |false=>none)
    |_=>none))
  |_,_=>none
theorem runQ_ps:∀ (os:List Oper) (i:Nat) (recs:List SRec) (mem:Mem Td) (ps:List Prop) {r:List SRec×Mem Td×List Prop},runQ S base sz os i recs mem ps=some r→∀ p∈ps,p∈r.2.2
 |[],i,recs,mem,ps,r,h,p,hp=>by
  simp only [runQ,Option.some.injEq] at h
  subst h;exact hp
 |o::os,i,recs,mem,ps,r,h,p,hp=>by
  simp only [runQ,forceN_eq] at h
  split at h
  ·split at h
   ·exact runQ_ps os _ _ _ _ h p hp
   ·split at h
    ·split at h
     ·exact runQ_ps os _ _ _ _ h p (List.mem_append_right _ hp)
     ·cases h
    ·cases h
  ·cases h
theorem runQ_dst:∀ (os:List Oper) (i:Nat) (recs:List SRec) (mem:Mem Td) (ps:List Prop) {recs':List SRec} {mem':Mem Td} {ps':List Prop},runQ S base sz os i recs mem ps=some (recs',mem',ps')→∀ r∈recs',r∈recs∨∃ o∈os,o.dst=r.dst
 |[],i,recs,mem,ps,recs',mem',ps',h,r,hr=>by
  simp only [runQ,Option.some.injEq,Prod.mk.injEq] at h
  obtain ⟨rfl,rfl,rfl⟩:=h
  exact .inl hr
 |o::os,i,recs,mem,ps,recs',mem',ps',h,r,hr=>by
  have step:∀ {sv:SV} {m2:Mem Td} {p2:List Prop},runQ S base sz os (i+1) (⟨i,o.dst,[],sv⟩::recs) m2 p2=some (recs',mem',ps')→r∈recs∨∃ o'∈o::os,o'.dst=r.dst:=fun h=>by
   rcases runQ_dst os _ _ _ _ h r hr with h|⟨o',ho',hd⟩
   ·rcases List.mem_cons.1 h with rfl|h
    ·exact .inr ⟨o,List.mem_cons_self ..,rfl⟩
    ·exact .inl h
   ·exact .inr ⟨o',List.mem_cons_of_mem _ ho',hd⟩
  simp only [runQ,forceN_eq] at h
  split at h
  ·split at h
   ·exact step h
   ·split at h
    ·split at h
     ·exact step h
     ·cases h
    ·cases h
  ·cases h
theorem call_quiet {recs:List SRec} {mem:Mem Td} {w:World} {e:Env} {o:Oper} {ρ:Operand→Value} {sv:SV} {qs:List Prop} {x:Value} (hS:SyOk S Id' W0 G) (hM:MemOk W0 G Id' w e mem) (hcl:isCallQ o=true) (hx:valQ sv=some x)
  (hρ:∀ y∈o.op.operands,OpIs recs base e y (ρ y)) (h:evalOp S recs base mem [] false o=some (sv,none,qs)) (hps:∀ p∈qs,p):
  ∃ f args,(∀ w',(execOp ρ o).run S.P w'=.ok (.enter f args) w')∧∀ w',Ext w w'→Calls S.P f args w' fun y w''=>y=.returned x∧Ext w w'':=by
 have hc:sat recs []=true:=rfl
 unfold isCallQ at hcl
 split at hcl
 ·rename_i fv xs ats hop
  unfold evalOp at h
  rw [hop] at h
  simp only at h
  split at h
  ·rename_i f fi ca us hs hus
   split at h
   ·rename_i g hg
    split at h
    ·rename_i qs' r hgr
     simp only [Option.some.injEq,Prod.mk.injEq] at h
     obtain ⟨rfl,-,rfl⟩:=h
     obtain ⟨a1,a2,k1,k2,hx'⟩:=fnS_is hs fun s hs=>lookS_is hs hc (hρ fv (by rw [hop];simp [Op.operands,Call.operands]))
     have hv:=cvs_of (ρ:=ρ) (e:=e) hc hus (fun x hx=>hρ x (by rw [hop];simp [Op.operands,Call.operands,Array.mem_toList_iff.1 hx]))
     obtain ⟨q1,q2⟩:=hS.fns f g hg _ mem _ _ none hgr hps
     have hall:=k1.ones.append (hv.append k2.ones)
     refine ⟨f,(a1++(xs.toList.map ρ++a2)).toArray,fun w'=>?_,fun w' hw=>?_⟩
     ·unfold execOp
      simp only [hop,resolve,hx',Deferred.ofValue,invoke,Sem.run_bind,Sem.run_pure,Result.andThen_ok,map_arr xs]
      rw [q1]
      simp
     ·exact (q2 w' e _ (hM.ext hw) hall).mono fun y w'' ⟨v,h1,h2,h3⟩=>⟨h1.trans (congrArg _ (valQ_is (e:=e) hx h2)),hw.trans h3⟩
    ·cases h
    ·cases h
   ·cases h
  ·cases h
 ·cases hcl
theorem runQ_seq (hS:SyOk S Id' W0 G) (hP:S.P=Try.prog) {w:World} {K:Act→Prop}:∀ (os:List Oper) (i:Nat) (recs:List SRec) (mem:Mem Td) (ps:List Prop) {recs':List SRec} {mem':Mem Td} {ps':List Prop} {a:Act} {e:Env},
  runQ S base sz os i recs mem ps=some (recs',mem',ps')→(∀ (j:Nat) (o:Oper),os[j]? =some o→l[i+j]? =some o)→RInv l recs i→FrOk recs base e a sz→MemOk W0 G Id' w e mem→(∀ p∈ps',p)→
  (∀ e' a',Grows e e'→FrOk recs' base e' a' sz→MemOk W0 G Id' w e' mem'→K a')→wpQuiet S.P l.toArray (fun w'=>Ext w w') K os a
 |[],i,recs,mem,ps,recs',mem',ps',a,e,h,hl,hI,hf,hM,hps,hend=>by
  simp only [runQ,Option.some.injEq,Prod.mk.injEq] at h
  obtain ⟨rfl,rfl,rfl⟩:=h
  exact wpQuiet_nil (hend e a (Grows.refl e) hf hM)
 |o::os,i,recs,mem,ps,recs',mem',ps',a,e,h,hl,hI,hf,hM,hps,hend=>by
  simp only [runQ,forceN_eq] at h
  split at h
  ·rename_i hd hg
   have hd:=dst_le hd
   have ho:l[i]? =some o:=by simpa using hl 0 o rfl
   have hl':∀ (j:Nat) (o':Oper),os[j]? =some o'→l[i+1+j]? =some o':=fun j o' hj=>by
    have:=hl (j+1) o' (by simpa using hj)
    rwa [show i+(j+1)=i+1+j by omega] at this
   have hw:Region.wanted o (yielded l.toArray a.tmps)=true:=by unfold Region.wanted;rw [hg]
   refine wpQuiet_step fun K' hK=>?_
   rw [if_pos hw]
   have hlt:∀ x∈([]:List (Nat×Bool)),x.1<i:=fun x hx=>by cases hx
   have next:∀ {sv:SV} {m2:Mem Td} {p2:List Prop} {v:Value} {e2:Env},runQ S base sz os (i+1) (⟨i,o.dst,[],sv⟩::recs) m2 p2=some (recs',mem',ps')→Grows e e2→sv.is e2 v→MemOk W0 G Id' w e2 m2→K' (a.put o.dst v):=fun {sv m2 p2 v e2} h hg2 hv hM2=>
    hK _ (runQ_seq hS hP os (i+1) _ _ _ h hl' (hI.cons ho (c:=[]) hlt sv) (hf.step hI hg2 (c:=[]) hlt hd ⟨fun _=>hv,fun h=>by cases h⟩) hM2 hps fun e' a' hg' hf' hM'=>hend e' a' (hg2.trans hg') hf' hM')
   split at h
   ·rename_i m' hrow
    unfold rowQ at hrow
    split at hrow
    ·rename_i t x hop
     split at hrow
     ·rename_i ix n idx off hpv
      split at hrow
      ·rename_i tb mu hm
       split at hrow
       ·rename_i hb
        simp only [Option.some.injEq] at hrow
        subst hrow
        simp only [Bool.and_eq_true] at hb
        obtain rfl:=eqb_eq.1 hb.1
        obtain rfl:=eqb_eq.1 hb.2.1
        obtain rfl:=eqb_eq.1 hb.2.2
        have hx:=lookS_is (pvS_some hpv) (c:=[]) rfl (hf.op x)
        obtain ⟨v,hv,hM2⟩:=tab_load_uni hM hm (ρ:=a.eval) hop ⟨hx,trivial⟩
        refine ⟨v,fun w' hw'=>?_,next h (Grows.push e v) ?_ hM2⟩
        ·unfold Oper.quietAt
         rw [hP,hv w' hw']
         exact ⟨rfl,rfl⟩
        ·show (e++[v])[mem.length]? =_
         rw [← hM.len,List.getElem?_append_right (Nat.le_refl _)];simp
       ·cases hrow
      ·rename_i sz' n' el mu hm
       split at hrow
       ·rename_i l' hb hel
        simp only [Option.some.injEq] at hrow
        subst hrow
        simp only [Bool.and_eq_true] at hb
        obtain rfl:=eqb_eq.1 hb.1
        have hoff:=leb_le.1 hb.2.1
        obtain rfl:=eqb_eq.1 hb.2.2
        have hx:=lookS_is (pvS_some hpv) (c:=[]) rfl (hf.op x)
        obtain ⟨v,hv,hM2⟩:=shr_load_uni hM hm hoff hel (ρ:=a.eval) hop ⟨hx,trivial⟩
        refine ⟨v,fun w' hw'=>?_,next h (Grows.push e v) ?_ hM2⟩
        ·unfold Oper.quietAt
         rw [hP,hv w' hw']
         exact ⟨rfl,rfl⟩
        ·show (e++[v])[mem.length]? =_
         rw [← hM.len,List.getElem?_append_right (Nat.le_refl _)];simp
       ·cases hrow
      ·cases hrow
     ·cases hrow
    ·cases hrow
   ·split at h
    ·rename_i sv qs hev
     split at h
     ·rename_i hk
      have hqs:∀ p∈qs,p:=fun p hp=>hps p (runQ_ps os _ _ _ _ h p (List.mem_append_left _ hp))
      cases hok:okQ o with
      |true=>
       obtain ⟨hb,hval⟩:=okQ_blind hok S.P a.eval
       have hg:=evalOp_pure hS hM hI.ok.2 rfl (fun x _=>hf.op x) hev hqs
       cases hr:(execOp a.eval o).run S.P w with
       |ok r w1=>
        obtain ⟨v,rfl⟩:=hval w r w1 hr
        rw [hr] at hg
        obtain ⟨rfl,hall⟩:=hb w _ w1 hr
        refine ⟨v,fun w' _=>?_,next h (Grows.refl e) hg.2 hM⟩
        unfold Oper.quietAt
        rw [hall w']
        exact ⟨rfl,rfl⟩
       |halt x w1=>rw [hr] at hg;exact hg.elim
      |false=>
       rw [hok,Bool.false_or,Bool.and_eq_true] at hk
       obtain ⟨x,hx⟩:=Option.isSome_iff_exists.1 hk.2
       obtain ⟨f,args,h1,h2⟩:=call_quiet hS hM hk.1 hx (fun y _=>hf.op y) hev hqs
       have hg:=evalOp_pure hS hM hI.ok.2 rfl (fun x _=>hf.op x) hev hqs
       rw [h1 w] at hg
       refine ⟨x,fun w' hw'=>?_,next h (Grows.refl e) (v:=x) ?_ hM⟩
       ·unfold Oper.quietAt
        rw [h1 w']
        exact ⟨rfl,h2 w' hw'⟩
       ·exact valQ_self hx
     ·cases h
    ·cases h
  ·cases h
end
end Go.Proofs.Ytdenmoiaiemokaa
set_option linter.unusedVariables false
set_option linter.unusedSimpArgs false
namespace Go.Proofs.Ytdenmoiaiemokaa
open Go.RowKit
def opsQ (id:Nat):Code→List Oper
 |.region i ops _=>match eqb i id with|true=>ops.toList|false=>[]
 |.seq x y=>opsQ id x++opsQ id y
 |.cond _ x y=>opsQ id x++opsQ id y
 |.block _ c=>opsQ id c
 |.loop c=>opsQ id c
 |_=>[]
section
variable {W0:World} {G:Nat→Prop} {sz:Nat}
def qG (S:Sy Td) (sz:Nat) (l:List Oper):SSt Td→Option (Tr Td):=fun s=>match runQ S s.base sz l 0 [] s.mem [] with
 |some (recs,mem,ps)=>forceN (s.ver+1) fun v=>some (leafT s (some (recs,mem,v,ps)))
 |none=>none
theorem qG_sound {Sq:Sy Td} (hS:SyOk Sq Id' W0 G) (hPq:Sq.P=Try.prog) {S:Sy Td} (hP:S.P=Try.prog) {id:Nat} {l:List Oper} (hB:Region.lexB .any l.toArray=true):FragSound S Id' W0 G sz (.region id l.toArray true) (qG Sq sz l):=by
 intro s t hg
 unfold qG at hg
 split at hg
 ·rename_i recs mem ps hr
  simp only [forceN_eq,Option.some.injEq] at hg
  subst hg
  refine ⟨leafT_after fun recs' mem' ver' ps' hx=>?_,fun K hK Q a w e hf hM hend=>?_⟩
  ·simp only [Option.some.injEq,Prod.mk.injEq] at hx
   obtain ⟨rfl,rfl,rfl,rfl⟩:=hx
   refine ⟨fun r hr'=>?_,Nat.le_succ _,fun h=>absurd h (by omega)⟩
   rcases runQ_dst l 0 [] _ _ hr r hr' with h|h
   ·cases h
   ·exact h
  ·obtain ⟨recs',mem',ver',ps',hx,hps,hK⟩:=leafT_holds hK
   simp only [Option.some.injEq,Prod.mk.injEq] at hx
   obtain ⟨rfl,rfl,rfl,rfl⟩:=hx
   rw [hP,←hPq]
   refine wp_region_quiet (C:=fun w'=>Ext w w') hS.mix hB (Ext.drew (Ext.refl w)) ?_
   exact runQ_seq (l:=l) hS hPq (K:=fun a'=>∀ w',Ext w w'→Q .normal a' w') l 0 [] s.mem [] hr (fun j o hj=>by rw [Nat.zero_add];exact hj) (RInv.nil l) hf hM hps (fun e' a' hg' hf' hM' w' hw'=>hend .normal _ e' a' w' hg' hK (flush_ok hf') (hM'.ext hw'))
 ·cases hg
end
end Go.Proofs.Ytdenmoiaiemokaa
set_option linter.unusedVariables false
set_option linter.unusedSimpArgs false
namespace Go.Proofs.Ytdenmoiaiemokaa
open Go.RowKit
def eqU (L M:List (List UInt8)) (i:Int):Bool:=decide (M.getD i.toNat []=L.getD i.toNat [])
set_option maxRecDepth 100000 in
theorem ref_n (L M:List (List UInt8)) (X:List Rw) (i i2:Int) (k:Nat) (f:Nat→Value) (h0:decide (i<(L.length:Int))=true) (h1:IntKind.i64.wrap (i+1)=i2) (h2:0≤i∧i.toNat<L.length) (h3:eqU L M (i)=true) (h4:L.length=M.length):∃ qs,alN Id' 3 [(15,.c (.one (.v (.int .i64 i2))))] [⟨.us (.ext (.shr 1 L.length (tbE L))),false⟩,⟨.us (.ext (.vw [true,false,false,false] X)),false⟩,⟨.us (.ext (.tab (.bs M))),true⟩] ((symC (⟨Try.prog,[F_rsame (ξ:=Dk)],[],dkHo,Id'.one,60⟩:Sy Td) [(100028,qG (⟨Try.prog,[F_rsame (ξ:=Dk)],[],dkHo,Id'.one,60⟩:Sy Td) 113 (opsQ 28 (bodyOf Try.f62)))] 113 (hdC (loopsC (bodyOf Try.f62)) 3) ⟨[(15,.c (.one (.v (.int .i64 i))))]++anyB' (writesC (hdC (loopsC (bodyOf Try.f62)) 3)) ([(0,.c (.one (.obj 0))),(13,.c (.one (.obj 2)))]++tabV f 113),[⟨.us (.ext (.shr 1 L.length (tbE L))),false⟩,⟨.us (.ext (.vw [true,false,false,false] X)),false⟩,⟨.us (.ext (.tab (.bs M))),true⟩],0⟩).al [true,false])=some qs∧∀ q∈qs,q:=
 ⟨[decide (i<(↑L.length:Int))=true,(0:Int)≤i∧i.toNat<L.length,(0:Int)≤i∧i.toNat<(TB.bs M).n,(!decide ((TB.bs M).byt i=L.getD i.toNat []))=false,Th.ext (Dk.shr 1 L.length (tbE L))=Th.ext (Dk.shr 1 L.length (tbE L)),Th.ext (Dk.vw [true,false,false,false] X)=Th.ext (Dk.vw [true,false,false,false] X),Th.ext (Dk.tab (TB.bs M))=Th.ext (Dk.tab (TB.bs M)),Value.int IntKind.i64 (IntKind.i64.wrap (i+(1:Int)))=Value.int IntKind.i64 i2],by kernel_rfl,(by refine mcons ?_ (mcons ?_ (mcons ?_ (mcons ?_ (mcons ?_ (mcons ?_ (mcons ?_ (mcons ?_ mnil)))))))<;>first|rfl|exact h0|exact h1|exact h2|exact h3|exact h4|trivial|(exact congrArg _ h1)|(exact h2)|(exact ⟨h2.1,by show _<M.length;omega⟩)|(exact congrArg (! ·) h3))⟩
set_option maxRecDepth 100000 in
theorem ref_x (L M:List (List UInt8)) (X:List Rw) (i i2:Int) (k:Nat) (f:Nat→Value) (h0:decide (i<(L.length:Int))=false):∃ qs,alX Id' 3 6 [] [⟨.us (.ext (.shr 1 L.length (tbE L))),false⟩,⟨.us (.ext (.vw [true,false,false,false] X)),false⟩,⟨.us (.ext (.tab (.bs M))),true⟩] ((symC (⟨Try.prog,[F_rsame (ξ:=Dk)],[],dkHo,Id'.one,60⟩:Sy Td) [(100028,qG (⟨Try.prog,[F_rsame (ξ:=Dk)],[],dkHo,Id'.one,60⟩:Sy Td) 113 (opsQ 28 (bodyOf Try.f62)))] 113 (hdC (loopsC (bodyOf Try.f62)) 3) ⟨[(15,.c (.one (.v (.int .i64 i))))]++anyB' (writesC (hdC (loopsC (bodyOf Try.f62)) 3)) ([(0,.c (.one (.obj 0))),(13,.c (.one (.obj 2)))]++tabV f 113),[⟨.us (.ext (.shr 1 L.length (tbE L))),false⟩,⟨.us (.ext (.vw [true,false,false,false] X)),false⟩,⟨.us (.ext (.tab (.bs M))),true⟩],0⟩).al [false])=some qs∧∀ q∈qs,q:=
 ⟨[decide (i<(↑L.length:Int))=false,Th.ext (Dk.shr 1 L.length (tbE L))=Th.ext (Dk.shr 1 L.length (tbE L)),Th.ext (Dk.vw [true,false,false,false] X)=Th.ext (Dk.vw [true,false,false,false] X),Th.ext (Dk.tab (TB.bs M))=Th.ext (Dk.tab (TB.bs M))],by kernel_rfl,(by refine mcons ?_ (mcons ?_ (mcons ?_ (mcons ?_ mnil)))<;>first|rfl|exact h0|trivial|(exact congrArg _ h1)|(exact h2)|(exact ⟨h2.1,by show _<M.length;omega⟩)|(exact congrArg (! ·) h3))⟩
set_option maxRecDepth 100000 in
theorem ref_r (L M:List (List UInt8)) (X:List Rw) (i i2:Int) (k:Nat) (f:Nat→Value) (h0:decide (i<(L.length:Int))=true) (h1:IntKind.i64.wrap (i+1)=i2) (h2:0≤i∧i.toNat<L.length) (h3:eqU L M (i)=false) (h4:L.length=M.length):∃ qs,alR Id' 3 [(2,.c (.one (.v (.slice none 0 0)))),(3,.c (.one (.kI .i64 4)))] [⟨.us (.ext (.shr 1 L.length (tbE L))),false⟩,⟨.us (.ext (.vw [true,false,false,false] X)),false⟩,⟨.us (.ext (.tab (.bs M))),true⟩] ((symC (⟨Try.prog,[F_rsame (ξ:=Dk)],[],dkHo,Id'.one,60⟩:Sy Td) [(100028,qG (⟨Try.prog,[F_rsame (ξ:=Dk)],[],dkHo,Id'.one,60⟩:Sy Td) 113 (opsQ 28 (bodyOf Try.f62)))] 113 (hdC (loopsC (bodyOf Try.f62)) 3) ⟨[(15,.c (.one (.v (.int .i64 i))))]++anyB' (writesC (hdC (loopsC (bodyOf Try.f62)) 3)) ([(0,.c (.one (.obj 0))),(13,.c (.one (.obj 2)))]++tabV f 113),[⟨.us (.ext (.shr 1 L.length (tbE L))),false⟩,⟨.us (.ext (.vw [true,false,false,false] X)),false⟩,⟨.us (.ext (.tab (.bs M))),true⟩],0⟩).al [true,true])=some qs∧∀ q∈qs,q:=
 ⟨[decide (i<(↑L.length:Int))=true,(0:Int)≤i∧i.toNat<L.length,(0:Int)≤i∧i.toNat<(TB.bs M).n,(!decide ((TB.bs M).byt i=L.getD i.toNat []))=true,Th.ext (Dk.shr 1 L.length (tbE L))=Th.ext (Dk.shr 1 L.length (tbE L)),Th.ext (Dk.vw [true,false,false,false] X)=Th.ext (Dk.vw [true,false,false,false] X),Th.ext (Dk.tab (TB.bs M))=Th.ext (Dk.tab (TB.bs M)),Value.slice none 0 0=Value.slice none 0 0,Value.int IntKind.i64 (Int.ofNat 4)=Value.int IntKind.i64 (Int.ofNat 4)],by kernel_rfl,(by refine mcons ?_ (mcons ?_ (mcons ?_ (mcons ?_ (mcons ?_ (mcons ?_ (mcons ?_ (mcons ?_ (mcons ?_ mnil))))))))<;>first|rfl|exact h0|exact h1|exact h2|exact h3|exact h4|trivial|(exact congrArg _ h1)|(exact h2)|(exact ⟨h2.1,by show _<M.length;omega⟩)|(exact congrArg (! ·) h3))⟩
set_option maxRecDepth 100000 in
theorem ref_lpA (L M:List (List UInt8)) (X:List Rw) (hL:L.length≤100000) (x0:L.length=M.length) (hall:∀ i:Int,0≤i→i.toNat<L.length→eqU L M (i)=true) {W0:World} {G:Nat→Prop} (S0:Sy Td) (hS0:S0.P=Try.prog):LoopSound S0 Id' W0 G 113 (hdC (loopsC (bodyOf Try.f62)) 3) (lpG Id' 113 (hdC (loopsC (bodyOf Try.f62)) 3) 3 [(15,.c (.one (.v (.int .i64 ((0+0:Nat):Int)))))] [(0,.c (.one (.obj 0))),(13,.c (.one (.obj 2)))] [⟨.us (.ext (.shr 1 L.length (tbE L))),false⟩,⟨.us (.ext (.vw [true,false,false,false] X)),false⟩,⟨.us (.ext (.tab (.bs M))),true⟩] (.leaf (.exit 6) [] [⟨.us (.ext (.shr 1 L.length (tbE L))),false⟩,⟨.us (.ext (.vw [true,false,false,false] X)),false⟩,⟨.us (.ext (.tab (.bs M))),true⟩])):=by
 refine lp_sound (V:=fun k=>[(15,.c (.one (.v (.int .i64 ((k+0:Nat):Int)))))]) (M:=(fun k=>[⟨.us (.ext (.shr 1 L.length (tbE L))),false⟩,⟨.us (.ext (.vw [true,false,false,false] X)),false⟩,⟨.us (.ext (.tab (.bs M))),true⟩]:Nat→Mem Td)) (N:=L.length) (Ux:=fun k x=>match x with|.exit 6=>some ([],([⟨.us (.ext (.shr 1 L.length (tbE L))),false⟩,⟨.us (.ext (.vw [true,false,false,false] X)),false⟩,⟨.us (.ext (.tab (.bs M))),true⟩]:Mem Td))|_=>none) (X:=fun _ _=>True) (J:=fun k=>True) (fun k=>by kernel_rfl) trivial (fun k hk hJ f=>?_) (fun K hK k x U hk hU hX=>?_)
 ·rw [hS0]
  cases hT:decide (((k+0:Nat):Int)<(L.length:Int)) with
  |false=>
   (obtain ⟨ps,g1,g2⟩:=ref_x L M X ((k+0:Nat):Int) ((k+1+0:Nat):Int) k f hT;exact rnd_x (⟨Try.prog,[F_rsame (ξ:=Dk)],[],dkHo,Id'.one,60⟩:Sy Td) [(100028,qG (⟨Try.prog,[F_rsame (ξ:=Dk)],[],dkHo,Id'.one,60⟩:Sy Td) 113 (opsQ 28 (bodyOf Try.f62)))] rfl ((fun (W0:World) (G:Nat→Prop)=>SyOk.mk2 Try.mixed dkHo_ok (FnsR.cons (F_rsame_ok (J:=dkI) (hx:=hardDk)) (FnsR.nil)) EqsOk.nil) W0 G) (LpsOk.cons (by kernel_rfl) (qG_sound (id:=28) ((fun (W0:World) (G:Nat→Prop)=>SyOk.mk2 Try.mixed dkHo_ok (FnsR.cons (F_rsame_ok (J:=dkI) (hx:=hardDk)) (FnsR.nil)) EqsOk.nil) W0 G) rfl rfl (by kernel_rfl)) (LpsOk.nil _)) (m2:=_) (fun w e h=>h) [false] 6 ps g1 g2 rfl trivial)
  |true=>
   have hk1:=of_decide_eq_true hT
   have hW:IntKind.i64.wrap (((k+0:Nat):Int)+1)=((k+1+0:Nat):Int):=by rw [IntWalk.i64_in _ (by omega)];omega
   (obtain ⟨ps,g1,g2⟩:=ref_n L M X ((k+0:Nat):Int) ((k+1+0:Nat):Int) k f hT hW (by omega) (hall _ (by omega) (by omega)) x0;exact rnd_n (⟨Try.prog,[F_rsame (ξ:=Dk)],[],dkHo,Id'.one,60⟩:Sy Td) [(100028,qG (⟨Try.prog,[F_rsame (ξ:=Dk)],[],dkHo,Id'.one,60⟩:Sy Td) 113 (opsQ 28 (bodyOf Try.f62)))] rfl ((fun (W0:World) (G:Nat→Prop)=>SyOk.mk2 Try.mixed dkHo_ok (FnsR.cons (F_rsame_ok (J:=dkI) (hx:=hardDk)) (FnsR.nil)) EqsOk.nil) W0 G) (LpsOk.cons (by kernel_rfl) (qG_sound (id:=28) ((fun (W0:World) (G:Nat→Prop)=>SyOk.mk2 Try.mixed dkHo_ok (FnsR.cons (F_rsame_ok (J:=dkI) (hx:=hardDk)) (FnsR.nil)) EqsOk.nil) W0 G) rfl rfl (by kernel_rfl)) (LpsOk.nil _)) (m2:=_) (fun w e h=>h) [true,false] ps g1 g2 rfl rfl (by omega) trivial)
 ·revert hU
  match x with
  |.normal=>intro hU;cases hU
  |.ret=>intro hU;cases hU
  |.exit n=>
   intro hU
   by_cases h:n=6
   ·subst h;simp only [Option.some.injEq] at hU;subst hU;exact hK
   ·exfalso;split at hU
    ·rename_i he;cases he;exact h rfl
    ·cases hU
set_option maxRecDepth 100000 in
theorem ref_lpR (L M:List (List UInt8)) (X:List Rw) (hL:L.length≤100000) (x0:L.length=M.length) (hex:∃ i:Int,0≤i∧i.toNat<L.length∧eqU L M (i)=false) {W0:World} {G:Nat→Prop} (S0:Sy Td) (hS0:S0.P=Try.prog):LoopSound S0 Id' W0 G 113 (hdC (loopsC (bodyOf Try.f62)) 3) (lpG Id' 113 (hdC (loopsC (bodyOf Try.f62)) 3) 3 [(15,.c (.one (.v (.int .i64 ((0+0:Nat):Int)))))] [(0,.c (.one (.obj 0))),(13,.c (.one (.obj 2)))] [⟨.us (.ext (.shr 1 L.length (tbE L))),false⟩,⟨.us (.ext (.vw [true,false,false,false] X)),false⟩,⟨.us (.ext (.tab (.bs M))),true⟩] (.leaf .ret [(2,.c (.one (.v (.slice none 0 0)))),(3,.c (.one (.kI .i64 4)))] [⟨.us (.ext (.shr 1 L.length (tbE L))),false⟩,⟨.us (.ext (.vw [true,false,false,false] X)),false⟩,⟨.us (.ext (.tab (.bs M))),true⟩])):=by
 refine lp_sound (V:=fun k=>[(15,.c (.one (.v (.int .i64 ((k+0:Nat):Int)))))]) (M:=(fun k=>[⟨.us (.ext (.shr 1 L.length (tbE L))),false⟩,⟨.us (.ext (.vw [true,false,false,false] X)),false⟩,⟨.us (.ext (.tab (.bs M))),true⟩]:Nat→Mem Td)) (N:=L.length) (Ux:=fun k x=>match x with|.ret=>some ([(2,.c (.one (.v (.slice none 0 0)))),(3,.c (.one (.kI .i64 4)))],([⟨.us (.ext (.shr 1 L.length (tbE L))),false⟩,⟨.us (.ext (.vw [true,false,false,false] X)),false⟩,⟨.us (.ext (.tab (.bs M))),true⟩]:Mem Td))|_=>none) (X:=fun _ _=>True) (J:=fun k=>∀ i:Int,0≤i→i<((k+0:Nat):Int)→eqU L M (i)=true) (fun k=>by kernel_rfl) (fun i h0 h1=>by omega) (fun k hk hJ f=>?_) (fun K hK k x U hk hU hX=>?_)
 ·rw [hS0]
  cases hT:decide (((k+0:Nat):Int)<(L.length:Int)) with
  |false=>
   obtain ⟨j,j0,j1,j2⟩:=hex
   have:=of_decide_eq_false hT
   rw [hJ j j0 (by omega)] at j2
   cases j2
  |true=>
   have hk1:=of_decide_eq_true hT
   have hW:IntKind.i64.wrap (((k+0:Nat):Int)+1)=((k+1+0:Nat):Int):=by rw [IntWalk.i64_in _ (by omega)];omega
   cases hq:eqU L M (((k+0:Nat):Int)) with
   |true=>(obtain ⟨ps,g1,g2⟩:=ref_n L M X ((k+0:Nat):Int) ((k+1+0:Nat):Int) k f hT hW (by omega) hq x0;exact rnd_n (⟨Try.prog,[F_rsame (ξ:=Dk)],[],dkHo,Id'.one,60⟩:Sy Td) [(100028,qG (⟨Try.prog,[F_rsame (ξ:=Dk)],[],dkHo,Id'.one,60⟩:Sy Td) 113 (opsQ 28 (bodyOf Try.f62)))] rfl ((fun (W0:World) (G:Nat→Prop)=>SyOk.mk2 Try.mixed dkHo_ok (FnsR.cons (F_rsame_ok (J:=dkI) (hx:=hardDk)) (FnsR.nil)) EqsOk.nil) W0 G) (LpsOk.cons (by kernel_rfl) (qG_sound (id:=28) ((fun (W0:World) (G:Nat→Prop)=>SyOk.mk2 Try.mixed dkHo_ok (FnsR.cons (F_rsame_ok (J:=dkI) (hx:=hardDk)) (FnsR.nil)) EqsOk.nil) W0 G) rfl rfl (by kernel_rfl)) (LpsOk.nil _)) (m2:=_) (fun w e h=>h) [true,false] ps g1 g2 rfl rfl (by omega) (fun i h0 h1=>by
     by_cases he:i=((k+0:Nat):Int)
     ·subst he;exact hq
     ·exact hJ i h0 (by omega)))
   |false=>(obtain ⟨ps,g1,g2⟩:=ref_r L M X ((k+0:Nat):Int) ((k+1+0:Nat):Int) k f hT hW (by omega) hq x0;exact rnd_r (⟨Try.prog,[F_rsame (ξ:=Dk)],[],dkHo,Id'.one,60⟩:Sy Td) [(100028,qG (⟨Try.prog,[F_rsame (ξ:=Dk)],[],dkHo,Id'.one,60⟩:Sy Td) 113 (opsQ 28 (bodyOf Try.f62)))] rfl ((fun (W0:World) (G:Nat→Prop)=>SyOk.mk2 Try.mixed dkHo_ok (FnsR.cons (F_rsame_ok (J:=dkI) (hx:=hardDk)) (FnsR.nil)) EqsOk.nil) W0 G) (LpsOk.cons (by kernel_rfl) (qG_sound (id:=28) ((fun (W0:World) (G:Nat→Prop)=>SyOk.mk2 Try.mixed dkHo_ok (FnsR.cons (F_rsame_ok (J:=dkI) (hx:=hardDk)) (FnsR.nil)) EqsOk.nil) W0 G) rfl rfl (by kernel_rfl)) (LpsOk.nil _)) (m2:=_) (fun w e h=>h) [true,true] ps g1 g2 rfl trivial)
 ·revert hU
  match x with
  |.ret=>intro hU;simp only [Option.some.injEq] at hU;subst hU;exact hK
  |.normal=>intro hU;cases hU
  |.exit n=>intro hU;cases hU
theorem eqU_all (L M:List (List UInt8)):(decide (L.length=M.length)&&allI 0 L.length (eqU L M))=decide (M=L):=by
 have h:=eqT_all L M
 have e:∀ i,eqU L M i=eqT L M i:=fun i=>by
  unfold eqU eqT
  rw [Bool.eq_iff_iff,decide_eq_true_iff,decide_eq_true_iff];exact eq_comm
 rw [show eqU L M=eqT L M from funext e,h,Bool.eq_iff_iff,decide_eq_true_iff,decide_eq_true_iff];exact eq_comm
end Go.Proofs.Ytdenmoiaiemokaa
set_option linter.unusedVariables false
set_option linter.unusedSimpArgs false
namespace Go.Proofs.Ytdenmoiaiemokaa
open Go.RowKit
set_option maxRecDepth 100000 in
theorem rentA_w0 (L:List (List UInt8)) :∃ qs,wayO Id' ([⟨.us (.ext (.shr 1 L.length (tbE L))),false⟩]:Mem Td).length [⟨.us (.ext (.shr 1 L.length (tbE L))),false⟩,⟨.us (.ext (.vw [true,false,false,false] ([]:List Rw))),false⟩] (.tup [.one (.obj 1),.one (.v (.int .i64 4))]) ((runFn (⟨Try.prog,[(59,ctrF Id' C_rblocks hardD),F_rsame (ξ:=Dk)],[],dkHo,Id'.one,60⟩:Sy Td) [(3,(lpG Id' 113 (hdC (loopsC (bodyOf Try.f62)) 0) 1 [(5,.c (.one (.v (.int .i64 ((0:Nat):Int))))),(4,.c (.one (.obj 1)))] [(0,.c (.one (.obj 0)))] [⟨.us (.ext (.shr 1 L.length (tbE L))),false⟩,⟨.us (.ext (.flat (.rw 109 [true,false,false,false] (stR L 0)))),true⟩] (.leaf .ret [(2,.c (.one (.v (.slice none 0 0)))),(3,.c (.one (.kI .i64 4)))] [⟨.us (.ext (.shr 1 L.length (tbE L))),false⟩,⟨.dead,true⟩])))] Try.f62 [.one (.obj 0)] [⟨.us (.ext (.shr 1 L.length (tbE L))),false⟩]).al [])=some qs∧∀ q∈qs,q:=
 ⟨[Th.ext (Dk.shr 1 L.length (tbE L))=Th.ext (Dk.shr 1 L.length (tbE L)),∀ (w:World),Id'.holds (Th.ext (Dk.flat (FL.rw 109 [true,false,false,false] (stR L 0)))) w nilV∧∀ (j:Nat),¬Id'.foot (Th.ext (Dk.flat (FL.rw 109 [true,false,false,false] (stR L 0)))) w nilV j,Value.int IntKind.i64 (Int.ofNat 0)=Value.int IntKind.i64 (Int.ofNat (0:Nat)),Th.ext (Dk.shr 1 L.length (tbE L))=Th.ext (Dk.shr 1 L.length (tbE L)),∀ (w:World),Id'.holds (Th.ext (Dk.vw [true,false,false,false] [])) w nilV∧∀ (j:Nat),¬Id'.foot (Th.ext (Dk.vw [true,false,false,false] [])) w nilV j,Value.int IntKind.i64 (Int.ofNat 4)=Value.int IntKind.i64 (Int.ofNat 4)],by kernel_rfl,(by refine mcons ?_ (mcons ?_ (mcons ?_ (mcons ?_ (mcons ?_ (mcons ?_ mnil)))))<;>first|rfl|trivial|(exact rwNil _ _)|(exact vwNil))⟩
set_option maxRecDepth 100000 in
theorem rentB_w0 (L:List (List UInt8)) (h0:((stR L L.length)).length≤(1000:Nat)) (h1:NmsOk (stR L L.length)) (h2:(rbE (stR L L.length) != (0:Int)||((TB.bs (rbB (stR L L.length))).n:Int) != (L.length:Int))=true):∃ qs,wayO Id' ([⟨.us (.ext (.shr 1 L.length (tbE L))),false⟩]:Mem Td).length [⟨.us (.ext (.shr 1 L.length (tbE L))),false⟩,⟨.us (.ext (.vw [true,false,false,false] ([]:List Rw))),false⟩] (.tup [.one (.obj 1),.one (.v (.int .i64 4))]) ((runFn (⟨Try.prog,[(59,ctrF Id' C_rblocks hardD),F_rsame (ξ:=Dk)],[],dkHo,Id'.one,60⟩:Sy Td) [(3,(lpG Id' 113 (hdC (loopsC (bodyOf Try.f62)) 0) 1 [(5,.c (.one (.v (.int .i64 ((0:Nat):Int))))),(4,.c (.one (.obj 1)))] [(0,.c (.one (.obj 0)))] [⟨.us (.ext (.shr 1 L.length (tbE L))),false⟩,⟨.us (.ext (.flat (.rw 109 [true,false,false,false] (stR L 0)))),true⟩] (.leaf (.exit 0) [(4,.c (.one (.obj 1)))] [⟨.us (.ext (.shr 1 L.length (tbE L))),false⟩,⟨.us (.ext (.flat (.rw 109 [true,false,false,false] (stR L L.length)))),true⟩]))),(100022,mapG (modAt wkE 1) (⟨Try.prog,[(59,ctrF Id' C_rblocks hardD)],[],dkHo,Id'.one,60⟩:Sy Td) 113 (regO 22 (bodyOf Try.f62)) (drwR 22 (bodyOf Try.f62)))] Try.f62 [.one (.obj 0)] [⟨.us (.ext (.shr 1 L.length (tbE L))),false⟩]).al [true])=some qs∧∀ q∈qs,q:=
 ⟨[Th.ext (Dk.shr 1 L.length (tbE L))=Th.ext (Dk.shr 1 L.length (tbE L)),∀ (w:World),Id'.holds (Th.ext (Dk.flat (FL.rw 109 [true,false,false,false] (stR L 0)))) w nilV∧∀ (j:Nat),¬Id'.foot (Th.ext (Dk.flat (FL.rw 109 [true,false,false,false] (stR L 0)))) w nilV j,Value.int IntKind.i64 (Int.ofNat 0)=Value.int IntKind.i64 (Int.ofNat (0:Nat)),(stR L L.length).length≤(1000:Nat),NmsOk (stR L L.length),(rbE (stR L L.length) != (0:Int)||(↑(TB.bs (rbB (stR L L.length))).n:Int) != (↑L.length:Int))=true,Th.ext (Dk.shr 1 L.length (tbE L))=Th.ext (Dk.shr 1 L.length (tbE L)),∀ (w:World),Id'.holds (Th.ext (Dk.vw [true,false,false,false] [])) w nilV∧∀ (j:Nat),¬Id'.foot (Th.ext (Dk.vw [true,false,false,false] [])) w nilV j,Value.int IntKind.i64 (Int.ofNat 4)=Value.int IntKind.i64 (Int.ofNat 4)],by kernel_rfl,(by refine mcons ?_ (mcons ?_ (mcons ?_ (mcons ?_ (mcons ?_ (mcons ?_ (mcons ?_ (mcons ?_ (mcons ?_ mnil))))))))<;>first|rfl|exact h0|exact h1|exact h2|trivial|(exact rwNil _ _)|(exact vwNil))⟩
set_option maxRecDepth 100000 in
theorem rentC_w0 (L:List (List UInt8)) (h0:((stR L L.length)).length≤(1000:Nat)) (h1:NmsOk (stR L L.length)) (h2:(rbE (stR L L.length) != (0:Int)||((TB.bs (rbB (stR L L.length))).n:Int) != (L.length:Int))=false):∃ qs,wayO Id' ([⟨.us (.ext (.shr 1 L.length (tbE L))),false⟩]:Mem Td).length [⟨.us (.ext (.shr 1 L.length (tbE L))),false⟩,⟨.us (.ext (.vw [true,false,false,false] (stR L L.length))),false⟩] (.tup [.one (.obj 1),.one (.v (.int .i64 0))]) ((runFn (⟨Try.prog,[(59,ctrF Id' C_rblocks hardD),F_rsame (ξ:=Dk)],[],dkHo,Id'.one,60⟩:Sy Td) [(3,(lpG Id' 113 (hdC (loopsC (bodyOf Try.f62)) 0) 1 [(5,.c (.one (.v (.int .i64 ((0:Nat):Int))))),(4,.c (.one (.obj 1)))] [(0,.c (.one (.obj 0)))] [⟨.us (.ext (.shr 1 L.length (tbE L))),false⟩,⟨.us (.ext (.flat (.rw 109 [true,false,false,false] (stR L 0)))),true⟩] (.leaf (.exit 0) [(4,.c (.one (.obj 1)))] [⟨.us (.ext (.shr 1 L.length (tbE L))),false⟩,⟨.us (.ext (.flat (.rw 109 [true,false,false,false] (stR L L.length)))),true⟩]))),(100022,mapG (modAt wkE 1) (⟨Try.prog,[(59,ctrF Id' C_rblocks hardD)],[],dkHo,Id'.one,60⟩:Sy Td) 113 (regO 22 (bodyOf Try.f62)) (drwR 22 (bodyOf Try.f62))),(26,(lpG Id' 113 (hdC (loopsC (bodyOf Try.f62)) 3) 3 [(15,.c (.one (.v (.int .i64 ((0+0:Nat):Int)))))] [(0,.c (.one (.obj 0))),(13,.c (.one (.obj 2)))] [⟨.us (.ext (.shr 1 L.length (tbE L))),false⟩,⟨.us (.ext (.vw [true,false,false,false] (stR L L.length))),false⟩,⟨.us (.ext (.tab (.bs (rbB (stR L L.length))))),true⟩] (.leaf (.exit 6) [] [⟨.us (.ext (.shr 1 L.length (tbE L))),false⟩,⟨.us (.ext (.vw [true,false,false,false] (stR L L.length))),false⟩,⟨.us (.ext (.tab (.bs (rbB (stR L L.length))))),true⟩])))] Try.f62 [.one (.obj 0)] [⟨.us (.ext (.shr 1 L.length (tbE L))),false⟩]).al [false])=some qs∧∀ q∈qs,q:=
 ⟨[Th.ext (Dk.shr 1 L.length (tbE L))=Th.ext (Dk.shr 1 L.length (tbE L)),∀ (w:World),Id'.holds (Th.ext (Dk.flat (FL.rw 109 [true,false,false,false] (stR L 0)))) w nilV∧∀ (j:Nat),¬Id'.foot (Th.ext (Dk.flat (FL.rw 109 [true,false,false,false] (stR L 0)))) w nilV j,Value.int IntKind.i64 (Int.ofNat 0)=Value.int IntKind.i64 (Int.ofNat (0:Nat)),(stR L L.length).length≤(1000:Nat),NmsOk (stR L L.length),(rbE (stR L L.length) != (0:Int)||(↑(TB.bs (rbB (stR L L.length))).n:Int) != (↑L.length:Int))=false,Th.ext (Dk.shr 1 L.length (tbE L))=Th.ext (Dk.shr 1 L.length (tbE L)),(Th.ext (Dk.vw [true,false,false,false] (stR L L.length)):Td)=Th.ext (Dk.vw [true,false,false,false] (stR L L.length)),Th.ext (Dk.tab (TB.bs (rbB (stR L L.length))))=Th.ext (Dk.tab (TB.bs (rbB (stR L L.length)))),Value.int IntKind.i64 (Int.ofNat 0)=Value.int IntKind.i64 (Int.ofNat ((0:Nat)+(0:Nat))),Th.ext (Dk.shr 1 L.length (tbE L))=Th.ext (Dk.shr 1 L.length (tbE L)),(Th.ext (Dk.vw [true,false,false,false] (stR L L.length)):Td)=Th.ext (Dk.vw [true,false,false,false] (stR L L.length)),Value.int IntKind.i64 (Int.ofNat 0)=Value.int IntKind.i64 (Int.ofNat 0)],by kernel_rfl,(by refine mcons ?_ (mcons ?_ (mcons ?_ (mcons ?_ (mcons ?_ (mcons ?_ (mcons ?_ (mcons ?_ (mcons ?_ (mcons ?_ (mcons ?_ (mcons ?_ (mcons ?_ mnil))))))))))))<;>first|rfl|exact h0|exact h1|exact h2|trivial|(exact rwNil _ _)|(exact vwNil))⟩
set_option maxRecDepth 100000 in
theorem rentD_w0 (L:List (List UInt8)) (h0:((stR L L.length)).length≤(1000:Nat)) (h1:NmsOk (stR L L.length)) (h2:(rbE (stR L L.length) != (0:Int)||((TB.bs (rbB (stR L L.length))).n:Int) != (L.length:Int))=false):∃ qs,wayO Id' ([⟨.us (.ext (.shr 1 L.length (tbE L))),false⟩]:Mem Td).length [⟨.us (.ext (.shr 1 L.length (tbE L))),false⟩,⟨.us (.ext (.vw [true,false,false,false] ([]:List Rw))),false⟩] (.tup [.one (.obj 1),.one (.v (.int .i64 4))]) ((runFn (⟨Try.prog,[(59,ctrF Id' C_rblocks hardD),F_rsame (ξ:=Dk)],[],dkHo,Id'.one,60⟩:Sy Td) [(3,(lpG Id' 113 (hdC (loopsC (bodyOf Try.f62)) 0) 1 [(5,.c (.one (.v (.int .i64 ((0:Nat):Int))))),(4,.c (.one (.obj 1)))] [(0,.c (.one (.obj 0)))] [⟨.us (.ext (.shr 1 L.length (tbE L))),false⟩,⟨.us (.ext (.flat (.rw 109 [true,false,false,false] (stR L 0)))),true⟩] (.leaf (.exit 0) [(4,.c (.one (.obj 1)))] [⟨.us (.ext (.shr 1 L.length (tbE L))),false⟩,⟨.us (.ext (.flat (.rw 109 [true,false,false,false] (stR L L.length)))),true⟩]))),(100022,mapG (modAt wkE 1) (⟨Try.prog,[(59,ctrF Id' C_rblocks hardD)],[],dkHo,Id'.one,60⟩:Sy Td) 113 (regO 22 (bodyOf Try.f62)) (drwR 22 (bodyOf Try.f62))),(26,(lpG Id' 113 (hdC (loopsC (bodyOf Try.f62)) 3) 3 [(15,.c (.one (.v (.int .i64 ((0+0:Nat):Int)))))] [(0,.c (.one (.obj 0))),(13,.c (.one (.obj 2)))] [⟨.us (.ext (.shr 1 L.length (tbE L))),false⟩,⟨.us (.ext (.vw [true,false,false,false] (stR L L.length))),false⟩,⟨.us (.ext (.tab (.bs (rbB (stR L L.length))))),true⟩] (.leaf .ret [(2,.c (.one (.v (.slice none 0 0)))),(3,.c (.one (.kI .i64 4)))] [⟨.us (.ext (.shr 1 L.length (tbE L))),false⟩,⟨.us (.ext (.vw [true,false,false,false] (stR L L.length))),false⟩,⟨.us (.ext (.tab (.bs (rbB (stR L L.length))))),true⟩])))] Try.f62 [.one (.obj 0)] [⟨.us (.ext (.shr 1 L.length (tbE L))),false⟩]).al [false])=some qs∧∀ q∈qs,q:=
 ⟨[Th.ext (Dk.shr 1 L.length (tbE L))=Th.ext (Dk.shr 1 L.length (tbE L)),∀ (w:World),Id'.holds (Th.ext (Dk.flat (FL.rw 109 [true,false,false,false] (stR L 0)))) w nilV∧∀ (j:Nat),¬Id'.foot (Th.ext (Dk.flat (FL.rw 109 [true,false,false,false] (stR L 0)))) w nilV j,Value.int IntKind.i64 (Int.ofNat 0)=Value.int IntKind.i64 (Int.ofNat (0:Nat)),(stR L L.length).length≤(1000:Nat),NmsOk (stR L L.length),(rbE (stR L L.length) != (0:Int)||(↑(TB.bs (rbB (stR L L.length))).n:Int) != (↑L.length:Int))=false,Th.ext (Dk.shr 1 L.length (tbE L))=Th.ext (Dk.shr 1 L.length (tbE L)),(Th.ext (Dk.vw [true,false,false,false] (stR L L.length)):Td)=Th.ext (Dk.vw [true,false,false,false] (stR L L.length)),Th.ext (Dk.tab (TB.bs (rbB (stR L L.length))))=Th.ext (Dk.tab (TB.bs (rbB (stR L L.length)))),Value.int IntKind.i64 (Int.ofNat 0)=Value.int IntKind.i64 (Int.ofNat ((0:Nat)+(0:Nat))),Th.ext (Dk.shr 1 L.length (tbE L))=Th.ext (Dk.shr 1 L.length (tbE L)),∀ (w:World),Id'.holds (Th.ext (Dk.vw [true,false,false,false] [])) w nilV∧∀ (j:Nat),¬Id'.foot (Th.ext (Dk.vw [true,false,false,false] [])) w nilV j,Value.int IntKind.i64 (Int.ofNat 4)=Value.int IntKind.i64 (Int.ofNat 4)],by kernel_rfl,(by refine mcons ?_ (mcons ?_ (mcons ?_ (mcons ?_ (mcons ?_ (mcons ?_ (mcons ?_ (mcons ?_ (mcons ?_ (mcons ?_ (mcons ?_ (mcons ?_ (mcons ?_ mnil))))))))))))<;>first|rfl|exact h0|exact h1|exact h2|trivial|(exact rwNil _ _)|(exact vwNil))⟩
def w128L (L:List (List UInt8)):Bool:=L.all fun l=>l.length==128
def rtOk (L:List (List UInt8)):Bool:=w128L L&&(rbE (stR L L.length)==0&&decide (rbB (stR L L.length)=L))
def rtE (L:List (List UInt8)):Int:=bif rtOk L then 0 else 4
def rtR (L:List (List UInt8)):List Rw:=bif rtOk L then (stR L L.length) else []
theorem w128_iff (L:List (List UInt8)):w128L L=true↔∀ j,j<L.length→(L.getD j []).length=128:=by
 unfold w128L
 rw [List.all_eq_true]
 constructor
 ·intro h j hj
  have:=h _ (List.getElem_mem hj)
  rw [List.getD_eq_getElem?_getD,List.getElem?_eq_getElem hj]
  simpa using this
 ·intro h l hl
  obtain ⟨j,hj,rfl⟩:=List.getElem_of_mem hl
  have:=h j hj
  rw [List.getD_eq_getElem?_getD,List.getElem?_eq_getElem hj] at this
  simpa using this
theorem NmsOk.snoc {X:List Rw} {r:Rw} (h:NmsOk X) (hr:(r.ss.getD 0 ⟨#[]⟩).size≤100000):NmsOk (X++[r]):=fun x hx=>by
 rcases List.mem_append.1 hx with h'|h'
 ·exact h x h'
 ·rw [List.mem_singleton] at h';subst h';exact hr
theorem entH_nm (s:RS):((entH s).ss.getD 0 ⟨#[]⟩).size≤100000:=by
 show (((gL 16 (g4 s)).drop 0).take ((gq s).toNat - 0)).toArray.size≤_
 rw [List.size_toArray,List.length_take,List.length_drop,gL_len]
 omega
theorem stH_nms (b:List UInt8) {X:List Rw} (h:NmsOk X):∀ k,NmsOk (stH b X k)
 |0=>h
 |k+1=>by
  have ih:=stH_nms b h k
  unfold stH
  cases inE (slE b (k:Int)) with
  |false=>exact ih
  |true=>exact ih.snoc (entH_nm _)
theorem stR_nms (L:List (List UInt8)):∀ k,NmsOk (stR L k)
 |0=>fun r hr=>by cases hr
 |k+1=>stH_nms _ (stR_nms L k) 5
def C_rents (L:List (List UInt8)):Ctr Td:=fun us sub=>match us,sub with
 |[.one (.obj 0)],[⟨.us (.ext (.shr sz n el)),false⟩]=>some ([sz=1∧n=L.length∧el=tbE L,L.length≤100],.tup [.one (.obj 1),.one (.v (.int .i64 (rtE L)))],[⟨.us (.ext (.shr sz n el)),false⟩,⟨.us (.ext (.vw [true,false,false,false] (rtR L))),false⟩])
 |_,_=>none
set_option maxRecDepth 100000 in
theorem C_rents_ok (L:List (List UInt8)):CtrOk Try.prog Id' 62 (C_rents L):=by
 intro us sub ps x sm h hp w e vs hM ha
 unfold C_rents at h
 split at h
 ·rename_i sz n el
  simp only [Option.some.injEq,Prod.mk.injEq] at h
  obtain ⟨rfl,rfl,rfl⟩:=h
  obtain ⟨rfl,rfl,rfl⟩:=hp _ (List.mem_cons_self ..)
  have hL:L.length≤100:=hp _ (List.mem_cons_of_mem _ (List.mem_cons_self ..))
  have hs:=stR_len L L.length
  have hN:=stR_nms L L.length
  cases q0:w128L L with
  |false=>
   have ho:rtOk L=false:=by unfold rtOk;rw [q0];rfl
   have hw:∃ j,j<L.length∧(L.getD j []).length≠128:=by
    refine Classical.byContradiction fun hn=>?_
    rw [(w128_iff L).2 fun j hj=>Classical.byContradiction fun h=>hn ⟨j,hj,h⟩] at q0
    cases q0
   unfold rtE rtR
   rw [ho]
   exact ctr_way (I:=Id') (fun (W0:World) (G:Nat→Prop)=>SyOk.mk2 Try.mixed dkHo_ok (FnsR.cons (R_rblocks) (FnsR.cons (F_rsame_ok (J:=dkI) (hx:=hardDk)) (FnsR.nil))) EqsOk.nil) rfl Try.func62 (by kernel_rfl) (fun W0 G=>LpsOk.cons (by kernel_rfl) (reo_lpR L (by omega) hw _ rfl) (LpsOk.nil _)) (cs:=[]) (by kernel_rfl) (rentA_w0 L ) w e vs hM ha
  |true=>
   have hw:=(w128_iff L).1 q0
   cases q1:(rbE (stR L L.length) != (0:Int)||((TB.bs (rbB (stR L L.length))).n:Int) != (L.length:Int)) with
   |true=>
    have ho:rtOk L=false:=by
     unfold rtOk
     rw [q0,Bool.true_and]
     rw [Bool.or_eq_true] at q1
     rcases q1 with q1|q1
     ·rw [bne_iff_ne] at q1
      rw [show (rbE (stR L L.length)==0)=false from by simpa using q1,Bool.false_and]
     ·rw [bne_iff_ne] at q1
      rw [show decide (rbB (stR L L.length)=L)=false from decide_eq_false fun e=>q1 (by rw [e];rfl),Bool.and_false]
    unfold rtE rtR
    rw [ho]
    exact ctr_way (I:=Id') (fun (W0:World) (G:Nat→Prop)=>SyOk.mk2 Try.mixed dkHo_ok (FnsR.cons (R_rblocks) (FnsR.cons (F_rsame_ok (J:=dkI) (hx:=hardDk)) (FnsR.nil))) EqsOk.nil) rfl Try.func62 (by kernel_rfl) (fun W0 G=>LpsOk.cons (by kernel_rfl) (reo_lpA L (by omega) hw _ rfl) (LpsOk.cons (by kernel_rfl) (mapG_sound (id:=22) ((fun (W0:World) (G:Nat→Prop)=>SyOk.mk2 Try.mixed dkHo_ok (FnsR.cons (R_rblocks) (FnsR.nil)) EqsOk.nil) W0 G) rfl (fun w e mem h=>wk_ok (W0:=W0) (G:=G) 1 w e mem h)) (LpsOk.nil _))) (cs:=[true]) (by kernel_rfl) (rentB_w0 L (by omega) hN q1) w e vs hM ha
   |false=>
    have q1':=q1
    rw [Bool.or_eq_false_iff,bne_eq_false_iff_eq,bne_eq_false_iff_eq] at q1'
    have hl:L.length=(rbB (stR L L.length)).length:=by
     have:((rbB (stR L L.length)).length:Int)=(L.length:Int):=q1'.2
     omega
    have hU:=eqU_all L (rbB (stR L L.length))
    rw [decide_eq_true hl,Bool.true_and] at hU
    rcases allI_cases 0 L.length (eqU L (rbB (stR L L.length))) with ⟨ha0,hall⟩|⟨ha0,hex⟩
    ·have ho:rtOk L=true:=by unfold rtOk;rw [q0,q1'.1,←hU,ha0];rfl
     unfold rtE rtR
     rw [ho]
     exact ctr_way (I:=Id') (fun (W0:World) (G:Nat→Prop)=>SyOk.mk2 Try.mixed dkHo_ok (FnsR.cons (R_rblocks) (FnsR.cons (F_rsame_ok (J:=dkI) (hx:=hardDk)) (FnsR.nil))) EqsOk.nil) rfl Try.func62 (by kernel_rfl) (fun W0 G=>LpsOk.cons (by kernel_rfl) (reo_lpA L (by omega) hw _ rfl) (LpsOk.cons (by kernel_rfl) (mapG_sound (id:=22) ((fun (W0:World) (G:Nat→Prop)=>SyOk.mk2 Try.mixed dkHo_ok (FnsR.cons (R_rblocks) (FnsR.nil)) EqsOk.nil) W0 G) rfl (fun w e mem h=>wk_ok (W0:=W0) (G:=G) 1 w e mem h)) (LpsOk.cons (by kernel_rfl) (ref_lpA L (rbB (stR L L.length)) (stR L L.length) (by omega) hl hall _ rfl) (LpsOk.nil _)))) (cs:=[false]) (by kernel_rfl) (rentC_w0 L (by omega) hN q1) w e vs hM ha
    ·have ho:rtOk L=false:=by unfold rtOk;rw [q0,q1'.1,←hU,ha0];rfl
     unfold rtE rtR
     rw [ho]
     exact ctr_way (I:=Id') (fun (W0:World) (G:Nat→Prop)=>SyOk.mk2 Try.mixed dkHo_ok (FnsR.cons (R_rblocks) (FnsR.cons (F_rsame_ok (J:=dkI) (hx:=hardDk)) (FnsR.nil))) EqsOk.nil) rfl Try.func62 (by kernel_rfl) (fun W0 G=>LpsOk.cons (by kernel_rfl) (reo_lpA L (by omega) hw _ rfl) (LpsOk.cons (by kernel_rfl) (mapG_sound (id:=22) ((fun (W0:World) (G:Nat→Prop)=>SyOk.mk2 Try.mixed dkHo_ok (FnsR.cons (R_rblocks) (FnsR.nil)) EqsOk.nil) W0 G) rfl (fun w e mem h=>wk_ok (W0:=W0) (G:=G) 1 w e mem h)) (LpsOk.cons (by kernel_rfl) (ref_lpR L (rbB (stR L L.length)) (stR L L.length) (by omega) hl hex _ rfl) (LpsOk.nil _)))) (cs:=[false]) (by kernel_rfl) (rentD_w0 L (by omega) hN q1) w e vs hM ha
 ·cases h
end Go.Proofs.Ytdenmoiaiemokaa
set_option linter.unusedVariables false
namespace Go.Proofs.Ytdenmoiaiemokaa
open Go.RowKit
theorem get_at {b:List UInt8} {p:Nat} (n:Nat) (hn:n≤64) (h:p+n≤8 * b.length):(⟨b,p,0⟩:RS).get (n:Int)=⟨b,p+n,0⟩∧(⟨b,p,0⟩:RS).num (n:Int)=val (((bitsAll b).drop p).take n):=RS.get_ok rfl hn h
theorem i64_num (s:RS) (n:Nat) (hn:n≤40):IntKind.i64.wrap (s.num (n:Int):Int)=(s.num (n:Int):Int):=by
 have h:=RS.num_lt s n
 have:(2:Nat) ^ n≤2 ^ 40:=Nat.pow_le_pow_right (by decide) hn
 have e:(2:Nat) ^ 40=1099511627776:=by decide
 exact IntWalk.i64_in _ (by omega)
def slB (b:List UInt8) (p:Nat):List Bool:=(bitsAll b).drop p
theorem g4_at {b:List UInt8} {p:Nat} (h:p+172≤8 * b.length):g4 ⟨b,p,0⟩=⟨b,p+44,0⟩∧gq ⟨b,p,0⟩=(val ((slB b p).take 5):Int)∧gA ⟨b,p,0⟩=(val (((slB b p).drop 5).take 6):Int)∧gB ⟨b,p,0⟩=(val (((slB b p).drop 11).take 31):Int)∧gC ⟨b,p,0⟩=(val (((slB b p).drop 42).take 2):Int):=by
 have h5:(⟨b,p,0⟩:RS).get 5=⟨b,p+5,0⟩∧(⟨b,p,0⟩:RS).num 5=_:=get_at 5 (by decide) (by omega)
 have h6:(⟨b,p+5,0⟩:RS).get 6=⟨b,p+11,0⟩∧(⟨b,p+5,0⟩:RS).num 6=_:=get_at 6 (by decide) (by omega)
 have h31:(⟨b,p+11,0⟩:RS).get 31=⟨b,p+42,0⟩∧(⟨b,p+11,0⟩:RS).num 31=_:=get_at 31 (by decide) (by omega)
 have h2:(⟨b,p+42,0⟩:RS).get 2=⟨b,p+44,0⟩∧(⟨b,p+42,0⟩:RS).num 2=_:=get_at 2 (by decide) (by omega)
 have w5:=i64_num ⟨b,p,0⟩ 5 (by decide)
 have w6:=i64_num ⟨b,p+5,0⟩ 6 (by decide)
 have w31:=i64_num ⟨b,p+11,0⟩ 31 (by decide)
 have w2:=i64_num ⟨b,p+42,0⟩ 2 (by decide)
 refine ⟨?_,?_,?_,?_,?_⟩
 ·unfold g4
  rw [h5.1,h6.1,h31.1,h2.1]
 ·unfold gq
  exact w5.trans (congrArg _ h5.2)
 ·unfold gA
  rw [h5.1]
  refine w6.trans (congrArg _ (h6.2.trans ?_))
  unfold slB
  rw [List.drop_drop]
 ·unfold gB
  rw [h5.1,h6.1]
  refine w31.trans (congrArg _ (h31.2.trans ?_))
  unfold slB
  rw [List.drop_drop]
 ·unfold gC
  rw [h5.1,h6.1,h31.1]
  refine w2.trans (congrArg _ (h2.2.trans ?_))
  unfold slB
  rw [List.drop_drop]
theorem gS_at {b:List UInt8} {q:Nat}:∀ n,q+8 * n≤8 * b.length→gS n ⟨b,q,0⟩=⟨b,q+8 * n,0⟩
 |0,_=>rfl
 |n+1,h=>by
  rw [gS_snoc,gS_at n (by omega)]
  have:=(get_at (b:=b) (p:=q+8 * n) 8 (by decide) (by omega)).1
  exact this
theorem gL_at {b:List UInt8} {q:Nat}:∀ n,q+8 * n≤8 * b.length→gL n ⟨b,q,0⟩=(List.range n).map fun j=>UInt8.ofNat (val ((slB b (q+8 * j)).take 8))
 |0,_=>rfl
 |n+1,h=>by
  rw [gL_snoc,gL_at n (by omega),gS_at n (by omega),List.range_succ,List.map_append]
  congr 1
  have h8:=(get_at (b:=b) (p:=q+8 * n) 8 (by decide) (by omega)).2
  have hl:=RS.num_lt ⟨b,q+8 * n,0⟩ 8
  have e8:(2:Nat) ^ 8=256:=by decide
  show [gU _]=[_]
  unfold gU
  have hw:IntKind.u8.wrap ((⟨b,q+8 * n,0⟩:RS).num 8:Int)=((⟨b,q+8 * n,0⟩:RS).num 8:Int):=by
   have:((⟨b,q+8 * n,0⟩:RS).num ((8:Nat):Int))<256:=by rw [← e8];exact hl
   have e:(⟨b,q+8 * n,0⟩:RS).num ((8:Nat):Int)=(⟨b,q+8 * n,0⟩:RS).num 8:=rfl
   rw [IntKind.wrap_u8];omega
  rw [hw,Int.toNat_natCast]
  congr 2
theorem gE_at {b:List UInt8} {p:Nat} (h:p+172≤8 * b.length):gE ⟨b,p,0⟩=⟨b,p+172,0⟩:=by
 unfold gE
 rw [(g4_at h).1,gS_at 16 (by omega)]
theorem nmB_app (l:List Bool) (nm:ByteArray):∀ k,nmB l nm k=l++nmB [] nm k
 |0=>(List.append_nil l).symm
 |k+1=>by simp only [nmB];rw [nmB_app l nm k,List.append_assoc]
def entF (r:Rw):List Bool:=entB [] r
theorem entB_app (l:List Bool) (r:Rw):entB l r=l++entF r:=by
 unfold entF entB
 rw [nmB_app,nmB_app (_++_)]
 simp only [List.append_assoc,List.nil_append]
theorem entsB_at (Y:List Rw) (t:List Bool):∀ k,k≤Y.length→∀ j,j<k→∃ t',(entsB Y k++t).drop (172 * j)=entF (Y.getD j Rw.zero)++t'
 |0,_,j,hj=>absurd hj (Nat.not_lt_zero j)
 |k+1,hk,j,hj=>by
  have hl:=entsB_len Y k
  rcases Nat.lt_or_ge j k with h|h
  ·obtain ⟨t',ht⟩:=entsB_at Y (entF (Y.getD k Rw.zero)++t) k (by omega) j h
   refine ⟨t',?_⟩
   show (entB (entsB Y k) (Y.getD k Rw.zero)++t).drop _=_
   rw [entB_app,List.append_assoc]
   exact ht
  ·have:j=k:=by omega
   subst this
   refine ⟨t,?_⟩
   show (entB (entsB Y j) (Y.getD j Rw.zero)++t).drop _=_
   rw [entB_app,List.append_assoc,List.drop_left' hl]
theorem nmB_at (nm:ByteArray) (t:List Bool):∀ k j,j<k→∃ t',(nmB [] nm k++t).drop (8 * j)=bitsOf (IntKind.u64.wrap (chI nm (j:Int))).toNat 8++t'
 |0,j,hj=>absurd hj (Nat.not_lt_zero j)
 |k+1,j,hj=>by
  have hl:=nmB_len [] nm k
  rw [List.length_nil,Nat.zero_add] at hl
  rcases Nat.lt_or_ge j k with h|h
  ·obtain ⟨t',ht⟩:=nmB_at nm (bitsOf (IntKind.u64.wrap (chI nm (k:Int))).toNat 8++t) k j h
   refine ⟨t',?_⟩
   show (nmB [] nm k++_++t).drop _=_
   rw [List.append_assoc]
   exact ht
  ·have:j=k:=by omega
   subst this
   refine ⟨t,?_⟩
   show (nmB [] nm j++_++t).drop _=_
   rw [List.append_assoc,List.drop_left' hl]
theorem take_len {l t:List Bool} {n:Nat} (h:l.length=n):(l++t).take n=l:=List.take_left' h
theorem entF_parts (r:Rw):entF r=bitsOf (IntKind.u64.wrap ((r.ss.getD 0 ⟨#[]⟩).size:Int)).toNat 5++(bitsOf (IntKind.u64.wrap (r.is.getD 0 0)).toNat 6++(bitsOf (IntKind.u64.wrap (r.is.getD 1 0)).toNat 31++(bitsOf (IntKind.u64.wrap (r.is.getD 2 0)).toNat 2++nmB [] (r.ss.getD 0 ⟨#[]⟩) 16))):=by
 unfold entF entB
 rw [nmB_app]
 simp only [List.append_assoc,List.nil_append]
theorem u64_nat {x:Int} {m:Nat} (h:0≤x∧x<(m:Int)) (hm:m≤18446744073709551616):(IntKind.u64.wrap x).toNat=x.toNat:=by rw [u64w_id (by omega)]
theorem read_ent {b:List UInt8} {p:Nat} {r:Rw} {t:List Bool} (h:p+172≤8 * b.length) (hr:isR r=true) (hB:slB b p=entF r++t):
  gq ⟨b,p,0⟩=((r.ss.getD 0 ⟨#[]⟩).size:Int)∧gA ⟨b,p,0⟩=r.is.getD 0 0∧gB ⟨b,p,0⟩=r.is.getD 1 0∧gC ⟨b,p,0⟩=r.is.getD 2 0∧(gL 16 (g4 ⟨b,p,0⟩)).take (r.ss.getD 0 ⟨#[]⟩).size=(r.ss.getD 0 ⟨#[]⟩).data.toList:=by
 obtain ⟨hn,ha,hb,hc⟩:=isE_in hr
 obtain ⟨k0,k1,k2,k3,k4⟩:=g4_at h
 rw [entF_parts] at hB
 simp only [List.append_assoc] at hB
 have hsz:(r.ss.getD 0 ⟨#[]⟩).data.toList.length=(r.ss.getD 0 ⟨#[]⟩).size:=Array.length_toList
 refine ⟨?_,?_,?_,?_,?_⟩
 ·rw [k1,hB,take_len (bitsOf_length _ _),u64_nat (m:=17) ⟨by omega,by omega⟩ (by decide),val_bits_id (by rw [Int.toNat_natCast];omega),Int.toNat_natCast]
 ·rw [k2,hB,List.drop_left' (bitsOf_length _ _),take_len (bitsOf_length _ _),u64_nat (m:=41) ⟨by omega,by omega⟩ (by decide),val_bits_id (by show _<64;omega)]
  omega
 ·have e:∀ l:List Bool,l.drop 11=(l.drop 5).drop 6:=fun l=>by rw [List.drop_drop]
  rw [k3,hB,e,List.drop_left' (bitsOf_length _ _),List.drop_left' (bitsOf_length _ _),take_len (bitsOf_length _ _),u64_nat (m:=2147483648) ⟨by omega,by omega⟩ (by decide),val_bits_id (by show _<2147483648;omega)]
  omega
 ·have e:∀ l:List Bool,l.drop 42=((l.drop 5).drop 6).drop 31:=fun l=>by rw [List.drop_drop,List.drop_drop]
  rw [k4,hB,e,List.drop_left' (bitsOf_length _ _),List.drop_left' (bitsOf_length _ _),List.drop_left' (bitsOf_length _ _),take_len (bitsOf_length _ _),u64_nat (m:=3) ⟨by omega,by omega⟩ (by decide),val_bits_id (by show _<4;omega)]
  omega
 ·rw [k0,gL_at 16 (by omega)]
  apply List.ext_getElem
  ·rw [List.length_take,List.length_map,List.length_range,hsz];omega
  ·intro j h1 h2
   rw [List.getElem_take,List.getElem_map,List.getElem_range]
   have hj:j<16:=by rw [hsz] at h2;omega
   have e:slB b (p+44+8 * j)=((((slB b p).drop 5).drop 6).drop 31 |>.drop 2).drop (8 * j):=by
    unfold slB
    rw [List.drop_drop,List.drop_drop,List.drop_drop,List.drop_drop,List.drop_drop]
    congr 1
    omega
   obtain ⟨t',ht⟩:=nmB_at (r.ss.getD 0 ⟨#[]⟩) t 16 j hj
   have hcj:chI (r.ss.getD 0 ⟨#[]⟩) (j:Int)=(((r.ss.getD 0 ⟨#[]⟩).data.toList[j]).toNat:Int):=by
    unfold chI
    rw [decide_eq_true (by rw [hsz] at h2;omega),cond_true,Int.toNat_natCast,List.getD_eq_getElem?_getD,List.getElem?_eq_getElem h2];rfl
   rw [e,hB,List.drop_left' (bitsOf_length _ _),List.drop_left' (bitsOf_length _ _),List.drop_left' (bitsOf_length _ _),List.drop_left' (bitsOf_length _ _),ht,take_len (bitsOf_length _ _),hcj]
   have hlt:=((r.ss.getD 0 ⟨#[]⟩).data.toList[j]).toNat_lt
   rw [u64_nat (m:=256) ⟨by omega,by omega⟩ (by decide),Int.toNat_natCast,val_bits_id (by show _<256;omega)]
   simp
theorem val_zero:∀ l:List Bool,(∀ x∈l,x=false)→val l=0
 |[],_=>rfl
 |a::l,h=>by
  rw [val_cons,h a (List.mem_cons_self ..),val_zero l fun x hx=>h x (List.mem_cons_of_mem _ hx)];simp
theorem read_none {b:List UInt8} {p:Nat} (h:p+172≤8 * b.length) (hB:∀ x∈slB b p,x=false):gq ⟨b,p,0⟩=0:=by
 rw [(g4_at h).2.1,val_zero _ fun x hx=>hB x (List.mem_of_mem_take hx)];rfl
theorem bits_blk (Y:List Rw):∃ k,bitsAll (blkD Y)=entsB Y Y.length++List.replicate k false:=by
 obtain ⟨k,_,h⟩:=bitsAll_packed _ (entsB Y Y.length) (Nat.le_refl _)
 have hz:∀ n,bitsAll (List.replicate n 0)=List.replicate (8 * n) false:=fun n=>by
  induction n with
  |zero=>rfl
  |succ n ih=>
   rw [List.replicate_succ]
   show bitsOf 0 8++bitsAll _=_
   rw [ih,Nat.mul_succ,Nat.add_comm,←List.replicate_append_replicate];rfl
 refine ⟨k+8 * (128 - (packed (entsB Y Y.length)).length),?_⟩
 unfold blkD padL
 rw [bitsAll_append,h,hz,List.append_assoc,List.replicate_append_replicate]
theorem blkD_len {Y:List Rw} (hl:Y.length≤5):(blkD Y).length=128:=by
 unfold blkD padL
 rw [List.length_append,List.length_replicate,packed_length,entsB_len]
 omega
theorem nm_eq {nm:ByteArray} {l:List UInt8} (h:l=nm.data.toList):(⟨l.toArray⟩:ByteArray)=nm:=by
 subst h
 simp
theorem slot_in {Y:List Rw} (hl:Y.length≤5) (hr:∀ r∈Y,isR r=true) {k:Nat} (hk:k<Y.length):entH ⟨blkD Y,172 * k,0⟩=nrm4 (Y.getD k Rw.zero)∧entG ⟨blkD Y,172 * k,0⟩=nrm4 (Y.getD k Rw.zero)∧inE ⟨blkD Y,172 * k,0⟩=true∧((gNm ⟨blkD Y,172 * k,0⟩).toList==(⟨#[]⟩:ByteArray).toList)=false∧gq ⟨blkD Y,172 * k,0⟩≤16:=by
 obtain ⟨z,hz⟩:=bits_blk Y
 obtain ⟨t',ht⟩:=entsB_at Y (List.replicate z false) Y.length (Nat.le_refl _) k hk
 rw [← hz] at ht
 have hR:isR (Y.getD k Rw.zero)=true:=hr _ (by rw [List.getD_eq_getElem?_getD,List.getElem?_eq_getElem hk];exact List.getElem_mem _)
 have hlen:=blkD_len hl
 obtain ⟨h1,h2,h3,h4,h5⟩:=read_ent (b:=blkD Y) (p:=172 * k) (by omega) hR ht
 obtain ⟨hn,_⟩:=isE_in hR
 have hn0:0<((Y.getD k Rw.zero).ss.getD 0 ⟨#[]⟩).size:=by
  have:=hR
  unfold isR isE nameB at this
  simp only [Bool.and_eq_true,decide_eq_true_eq] at this
  omega
 have hgN:gN ⟨blkD Y,172 * k,0⟩=(((Y.getD k Rw.zero).ss.getD 0 ⟨#[]⟩).size:Int):=by
  have:gN ⟨blkD Y,172 * k,0⟩=if (16:Int)<gq ⟨blkD Y,172 * k,0⟩ then 16 else gq ⟨blkD Y,172 * k,0⟩:=rfl
  rw [this,h1,if_neg (by omega)]
 have hnm:gNm ⟨blkD Y,172 * k,0⟩=(Y.getD k Rw.zero).ss.getD 0 ⟨#[]⟩:=by
  unfold gNm
  rw [hgN,Int.toNat_natCast,h5]
 refine ⟨?_,?_,?_,?_,?_⟩
 ·unfold entH nrm4
  rw [h1,h2,h3,h4,Int.toNat_natCast,List.drop_zero,Nat.sub_zero,h5,nm_eq rfl]
 ·unfold entG nrm4
  rw [h2,h3,h4,hnm]
 ·unfold inE
  rw [h1,Bool.and_eq_true,decide_eq_true_iff,decide_eq_true_iff]
  omega
 ·rw [hnm]
  cases hq:(((Y.getD k Rw.zero).ss.getD 0 ⟨#[]⟩).toList==(⟨#[]⟩:ByteArray).toList) with
  |false=>rfl
  |true=>
   have:=congrArg List.length (eq_of_beq hq)
   rw [byteArray_len] at this
   have e0:(⟨#[]⟩:ByteArray).toList.length=0:=by rw [byteArray_len];rfl
   omega
 ·rw [h1];omega
theorem slot_out {Y:List Rw} (hl:Y.length≤5) {k:Nat} (hk:Y.length≤k) (h5:k<5):inE ⟨blkD Y,172 * k,0⟩=false∧((gNm ⟨blkD Y,172 * k,0⟩).toList==(⟨#[]⟩:ByteArray).toList)=true∧gq ⟨blkD Y,172 * k,0⟩≤16:=by
 obtain ⟨z,hz⟩:=bits_blk Y
 have hlen:=blkD_len hl
 have hq:=read_none (b:=blkD Y) (p:=172 * k) (by omega) fun x hx=>by
  unfold slB at hx
  rw [hz] at hx
  obtain ⟨n,hn,rfl⟩:=List.getElem_of_mem hx
  rw [List.getElem_drop,List.getElem_append_right (by rw [entsB_len];omega),List.getElem_replicate]
 have hgN:gN ⟨blkD Y,172 * k,0⟩=0:=by
  have:gN ⟨blkD Y,172 * k,0⟩=if (16:Int)<gq ⟨blkD Y,172 * k,0⟩ then 16 else gq ⟨blkD Y,172 * k,0⟩:=rfl
  rw [this,hq,if_neg (by omega)]
 refine ⟨?_,?_,?_⟩
 ·unfold inE;rw [hq];rfl
 ·unfold gNm;rw [hgN];simp
 ·rw [hq];omega
end Go.Proofs.Ytdenmoiaiemokaa
set_option linter.unusedVariables false
namespace Go.Proofs.Ytdenmoiaiemokaa
open Go.RowKit
theorem slE_at (b:List UInt8) {k:Nat} (h:k≤5):slE b (k:Int)=⟨b,172 * k,0⟩:=by
 unfold slE
 rw [IntWalk.i64_in _ (by omega)]
 congr 1
 omega
def small (b:List UInt8):Prop:=∀ k,k<5→gq ⟨b,172 * k,0⟩≤16
theorem stE_s {b:List UInt8} (hb:b.length=128) (X:List Rw):∀ k,k≤5→(stE X (RS.new b) k).2=⟨b,172 * k,0⟩
 |0,_=>rfl
 |k+1,h=>by
  show gE (stE X (RS.new b) k).2=_
  rw [stE_s hb X k (by omega),gE_at (by omega)]
  congr 1
theorem gq_pos (s:RS):0≤gq s:=by
 unfold gq
 rw [show (5:Int)=((5:Nat):Int) from rfl,i64_num s 5 (by decide)]
 omega
theorem gN_small {s:RS} (h:gq s≤16):gN s=gq s:=by
 have:gN s=if (16:Int)<gq s then 16 else gq s:=rfl
 rw [this,if_neg (by omega)]
theorem nm_none {s:RS} (h:gq s≤16):((gNm s).toList==(⟨#[]⟩:ByteArray).toList)=!inE s:=by
 have hl:(gNm s).toList.length=(gq s).toNat:=by
  rw [byteArray_len]
  unfold gNm
  rw [gN_small h]
  show ((gL 16 (g4 s)).take (gq s).toNat).toArray.size=_
  rw [List.size_toArray,List.length_take,gL_len]
  omega
 have e0:(⟨#[]⟩:ByteArray).toList.length=0:=by rw [byteArray_len];rfl
 have hp:=gq_pos s
 by_cases hq:gq s=0
 ·rw [hq] at hl
  have h1:=List.eq_nil_of_length_eq_zero hl
  have h2:=List.eq_nil_of_length_eq_zero e0
  rw [h1,h2]
  unfold inE
  rw [hq];rfl
 ·have:inE s=true:=by
   unfold inE
   rw [Bool.and_eq_true,decide_eq_true_iff,decide_eq_true_iff];omega
  rw [this]
  cases hh:((gNm s).toList==(⟨#[]⟩:ByteArray).toList) with
  |false=>rfl
  |true=>
   have:=congrArg List.length (eq_of_beq hh)
   omega
theorem ent_eq {s:RS} (h:gq s≤16):entG s=entH s:=by
 unfold entG entH gNm
 rw [gN_small h,List.drop_zero,Nat.sub_zero]
theorem stE_stH {b:List UInt8} (hb:b.length=128) (hs:small b) (X:List Rw):∀ k,k≤5→(stE X (RS.new b) k).1=stH b X k
 |0,_=>rfl
 |k+1,h=>by
  have ih:=stE_stH hb hs X k (by omega)
  have h16:=hs k (by omega)
  unfold stE stH
  rw [stE_s hb X k (by omega),ih,slE_at b (by omega),nm_none h16,ent_eq h16]
  cases inE ⟨b,172 * k,0⟩<;>rfl
def Good (L:List (List UInt8)):Prop:=∀ l∈L,l.length=128∧small l
theorem sto_str {L:List (List UInt8)} (h:Good L):∀ k,k≤L.length→stO L k=stR L k
 |0,_=>rfl
 |k+1,hk=>by
  obtain ⟨h1,h2⟩:=h (L.getD k []) (by rw [List.getD_eq_getElem?_getD,List.getElem?_eq_getElem (show k<L.length by omega)];exact List.getElem_mem _)
  show (stE (stO L k) (RS.new (L.getD k [])) 5).1=stH (L.getD k []) (stR L k) 5
  rw [stE_stH h1 h2 _ 5 (Nat.le_refl _),sto_str h k (by omega)]
theorem small_blk {Y:List Rw} (hl:Y.length≤5) (hr:∀ r∈Y,isR r=true):(blkD Y).length=128∧small (blkD Y):=by
 refine ⟨blkD_len hl,fun k hk=>?_⟩
 rcases Nat.lt_or_ge k Y.length with h|h
 ·exact (slot_in hl hr h).2.2.2.2
 ·exact (slot_out hl h hk).2.2
theorem okP_right {R:List Rw} (h:okP R=true):∀ r∈R,isR r=true:=fun r hr=>by
 have h2:=(Bool.and_eq_true_iff.1 h).2
 obtain ⟨j,hj,rfl⟩:=List.getElem_of_mem hr
 have:=allI_iff.1 h2 (j:Int) (by omega) (by simpa using hj)
 unfold isI at this
 rw [Int.toNat_natCast,List.getD_eq_getElem?_getD,List.getElem?_eq_getElem hj] at this
 exact this
theorem blksD_good {R:List Rw} (h:∀ r∈R,isR r=true):∀ k,Good (blksD R k)
 |0=>fun l hl=>by cases hl
 |k+1=>fun l hl=>by
  have hl:l∈blksD R k++[blkD ((R.drop (5 * k)).take 5)]:=hl
  rcases List.mem_append.1 hl with h'|h'
  ·exact blksD_good h k l h'
  ·rw [List.mem_singleton] at h'
   subst h'
   exact small_blk (List.length_take_le ..) fun r hr=>h r (List.mem_of_mem_drop (List.mem_of_mem_take hr))
theorem rbB_good (R:List Rw):Good (rbB R):=by
 unfold rbB
 rw [← okP_is]
 cases h:okP R with
 |false=>exact fun l hl=>by cases hl
 |true=>
  rw [Bool.true_and]
  cases decide ((R.length:Int)>24) with
  |true=>exact fun l hl=>by cases hl
  |false=>exact blksD_good (okP_right h) _
theorem Good.w128 {L:List (List UInt8)} (h:Good L):w128L L=true:=by
 unfold w128L
 rw [List.all_eq_true]
 exact fun l hl=>by simpa using (h l hl).1
theorem de_rt (L:List (List UInt8)):deOk L=rtOk L∧(deOk L=true→stO L L.length=stR L L.length):=by
 have key:∀ X:List Rw,dbB X=L→stO L L.length=stR L L.length∧w128L L=true:=fun X h=>by
  have hg:Good L:=by rw [← h,dbB_is];exact rbB_good X
  exact ⟨sto_str hg _ (Nat.le_refl _),hg.w128⟩
 have h1:deOk L=true→rtOk L=true∧stO L L.length=stR L L.length:=fun h=>by
  have h':=h
  unfold deOk at h
  rw [Bool.and_eq_true,beq_iff_eq,decide_eq_true_iff] at h
  obtain ⟨k1,k2⟩:=key _ h.2
  refine ⟨?_,k1⟩
  unfold rtOk
  rw [k2,←k1,←dbE_is,←dbB_is,h.1,h.2]
  simp
 have h2:rtOk L=true→deOk L=true:=fun h=>by
  unfold rtOk at h
  rw [Bool.and_eq_true,Bool.and_eq_true,beq_iff_eq,decide_eq_true_iff] at h
  obtain ⟨k1,k2⟩:=key (stR L L.length) (by rw [dbB_is];exact h.2.2)
  unfold deOk
  rw [k1,dbE_is,dbB_is,h.2.1,h.2.2]
  simp
 refine ⟨?_,fun h=>(h1 h).2⟩
 cases hd:deOk L with
 |true=>rw [(h1 hd).1]
 |false=>
  cases hr:rtOk L with
  |true=>rw [h2 hr] at hd;cases hd
  |false=>rfl
theorem deE_is (L:List (List UInt8)):deE L=rtE L:=by unfold deE rtE;rw [(de_rt L).1]
theorem deR_is (L:List (List UInt8)):deR L=rtR L:=by
 unfold deR rtR
 obtain ⟨h1,h2⟩:=de_rt L
 cases hd:deOk L with
 |true=>rw [← h1,hd,h2 hd]
 |false=>rw [← h1,hd];rfl
theorem stH_blk {Y:List Rw} (hl:Y.length≤5) (hr:∀ r∈Y,isR r=true) (X:List Rw):∀ j,j≤5→stH (blkD Y) X j=X++(Y.take j).map nrm4
 |0,_=>by simp [stH]
 |j+1,h=>by
  have ih:=stH_blk hl hr X j (by omega)
  unfold stH
  rw [slE_at _ (by omega),ih]
  rcases Nat.lt_or_ge j Y.length with hj|hj
  ·obtain ⟨h1,_,h3,_⟩:=slot_in hl hr hj
   rw [h3,h1,cond_true,List.append_assoc,List.take_add_one,List.map_append]
   congr 2
   rw [List.getD_eq_getElem?_getD,List.getElem?_eq_getElem hj];rfl
  ·obtain ⟨h1,_⟩:=slot_out hl hj (by omega)
   rw [h1,cond_false,List.take_of_length_le hj,List.take_of_length_le (by omega)]
theorem stR_blks {R:List Rw} (hr:∀ r∈R,isR r=true):∀ n k,k≤n→stR (blksD R n) k=(R.take (5 * k)).map nrm4
 |n,0,_=>rfl
 |n,k+1,h=>by
  have ih:=stR_blks hr n k (by omega)
  have hat:∀ n,k<n→(blksD R n).getD k []=blkD ((R.drop (5 * k)).take 5):=by
   intro n
   induction n with
   |zero=>intro h;omega
   |succ n ihn=>
    intro hk
    have hln:∀ m,(blksD R m).length=m:=fun m=>by
     induction m with
     |zero=>rfl
     |succ m ihm=>show (blksD R m++[_]).length=_;rw [List.length_append,ihm];rfl
    show (blksD R n++[_]).getD k []=_
    rcases Nat.lt_or_ge k n with hh|hh
    ·rw [List.getD_eq_getElem?_getD,List.getElem?_append_left (by rw [hln];exact hh),←List.getD_eq_getElem?_getD]
     exact ihn hh
    ·have:k=n:=by omega
     subst this
     rw [List.getD_eq_getElem?_getD,List.getElem?_append_right (by rw [hln];exact Nat.le_refl _),hln,Nat.sub_self];rfl
  show stH ((blksD R n).getD k []) (stR (blksD R n) k) 5=_
  rw [ih,hat n (by omega),stH_blk (List.length_take_le ..) (fun r hr'=>hr r (List.mem_of_mem_drop (List.mem_of_mem_take hr'))) _ 5 (Nat.le_refl _),←List.map_append,List.take_take,Nat.min_self]
  congr 1
  rw [Nat.mul_succ,List.take_add]
theorem back {R:List Rw} (hE:dbE R=0) (hn:R.map nrm4=R):deOk (dbB R)=true∧deR (dbB R)=R:=by
 have hok:okP R=true∧decide ((R.length:Int)>24)=false:=by
  unfold dbE at hE
  cases h:okP R with
  |false=>rw [h] at hE;cases hE
  |true=>
   cases h2:decide ((R.length:Int)>24) with
   |false=>exact ⟨rfl,rfl⟩
   |true=>rw [h,h2] at hE;cases hE
 have hB:dbB R=blksD R (nbR R):=by
  rw [dbB_is]
  unfold rbB
  rw [← okP_is,hok.1,hok.2];rfl
 have hlen:(blksD R (nbR R)).length=nbR R:=by
  have:=blks_is (okP_right hok.1) (nbR R)
  rw [← this,blksP_len]
 have hs:stR (dbB R) (dbB R).length=R:=by
  rw [hB,hlen,stR_blks (okP_right hok.1) _ _ (Nat.le_refl _),List.take_of_length_le (by unfold nbR;omega),hn]
 have hg:Good (dbB R):=by rw [dbB_is];exact rbB_good R
 have hs':stO (dbB R) (dbB R).length=R:=by rw [sto_str hg _ (Nat.le_refl _),hs]
 have h1:deOk (dbB R)=true:=by
  unfold deOk
  rw [hs',hE]
  simp
 refine ⟨h1,?_⟩
 unfold deR
 rw [h1,hs'];rfl
theorem ba_refl (a:ByteArray):(a==a)=true:=by cases a with|mk d=>show (d==d)=true;simp
theorem same_refl (R:List Rw):sameR R R=true:=by
 unfold sameR
 rw [decide_eq_true rfl,Bool.true_and,allI_iff]
 intro i _ _
 unfold sameI sameE
 rw [ba_refl]
 simp
end Go.Proofs.Ytdenmoiaiemokaa
set_option linter.unusedVariables false
set_option linter.unusedSimpArgs false
namespace Go.Proofs.Ytdenmoiaiemokaa
open Go.RowKit
structure DbIs (R:List Rw) (L:List (List UInt8)) (e:Int):Prop where
 b:dbB R=L
 c:dbE R=e
def C_dblkN (L:List (List UInt8)) (e:Int):Ctr Td:=fun us sub=>match us,sub with
 |[.one (.obj 0)],[⟨.us (.ext (.vw [true,false,false,false] R)),false⟩]=>some ([R.length≤1000,DbIs R L e],.tup [.one (.obj 1),.one (.v (.int .i64 e))],[⟨.us (.ext (.vw [true,false,false,false] R)),false⟩,⟨.us (.ext (.tab (.bs L))),true⟩])
 |_,_=>none
set_option maxRecDepth 100000 in
theorem C_dblkN_ok (L:List (List UInt8)) (e:Int):CtrOk Try.prog Id' 58 (C_dblkN L e):=by
 intro us sub ps x sm h hp w e_ vs hM ha
 unfold C_dblkN at h
 split at h
 ·rename_i R
  simp only [Option.some.injEq,Prod.mk.injEq] at h
  obtain ⟨rfl,rfl,rfl⟩:=h
  have q:DbIs R L e:=hp _ (List.mem_cons_of_mem _ (List.mem_cons_self ..))
  obtain ⟨rfl,rfl⟩:=q
  exact C_dblocks_ok  _ _ _ _ _ rfl (fun q hq=>(by
   simp only [List.mem_cons,List.not_mem_nil,or_false] at hq
   subst hq;exact hp _ (List.mem_cons_self ..))) w e_ vs hM ha
 ·cases h
theorem R_dblkN (L:List (List UInt8)) (e:Int):RowOk Try.prog Id' hardD 58 (ctrF Id' (C_dblkN L e) hardD):=ctrF_ok Try.call58 (C_dblkN_ok L e)
structure DeIs (L:List (List UInt8)) (X:List Rw) (e:Int):Prop where
 b:deR L=X
 c:deE L=e
def C_dentN (L:List (List UInt8)) (X:List Rw) (e:Int):Ctr Td:=fun us sub=>match us,sub with
 |[.one (.obj 0)],[⟨.us (.ext (.shr sz n el)),false⟩]=>some ([sz=1∧n=L.length∧el=tbE L,L.length≤100∧∀ l∈L,l.length≤100000,DeIs L X e],.tup [.one (.obj 1),.one (.v (.int .i64 e))],[⟨.us (.ext (.shr sz n el)),false⟩,⟨.us (.ext (.vw [true,false,false,false] X)),false⟩])
 |_,_=>none
set_option maxRecDepth 100000 in
theorem C_dentN_ok (L:List (List UInt8)) (X:List Rw) (e:Int):CtrOk Try.prog Id' 61 (C_dentN L X e):=by
 intro us sub ps x sm h hp w e_ vs hM ha
 unfold C_dentN at h
 split at h
 ·rename_i sz n el
  simp only [Option.some.injEq,Prod.mk.injEq] at h
  obtain ⟨rfl,rfl,rfl⟩:=h
  have q:DeIs L X e:=hp _ (List.mem_cons_of_mem _ (List.mem_cons_of_mem _ (List.mem_cons_self ..)))
  obtain ⟨rfl,rfl⟩:=q
  exact C_dents_ok L _ _ _ _ _ rfl (fun q hq=>(by
   simp only [List.mem_cons,List.not_mem_nil,or_false] at hq
   rcases hq with rfl|rfl<;>first|exact hp _ (List.mem_cons_self ..)|exact hp _ (List.mem_cons_of_mem _ (List.mem_cons_self ..)))) w e_ vs hM ha
 ·cases h
theorem R_dentN (L:List (List UInt8)) (X:List Rw) (e:Int):RowOk Try.prog Id' hardD 61 (ctrF Id' (C_dentN L X e) hardD):=ctrF_ok Try.call61 (C_dentN_ok L X e)
structure ReIs (L:List (List UInt8)) (X:List Rw) (e:Int):Prop where
 b:rtR L=X
 c:rtE L=e
def C_rentN (L:List (List UInt8)) (X:List Rw) (e:Int):Ctr Td:=fun us sub=>match us,sub with
 |[.one (.obj 0)],[⟨.us (.ext (.shr sz n el)),false⟩]=>some ([sz=1∧n=L.length∧el=tbE L,L.length≤100,ReIs L X e],.tup [.one (.obj 1),.one (.v (.int .i64 e))],[⟨.us (.ext (.shr sz n el)),false⟩,⟨.us (.ext (.vw [true,false,false,false] X)),false⟩])
 |_,_=>none
set_option maxRecDepth 100000 in
theorem C_rentN_ok (L:List (List UInt8)) (X:List Rw) (e:Int):CtrOk Try.prog Id' 62 (C_rentN L X e):=by
 intro us sub ps x sm h hp w e_ vs hM ha
 unfold C_rentN at h
 split at h
 ·rename_i sz n el
  simp only [Option.some.injEq,Prod.mk.injEq] at h
  obtain ⟨rfl,rfl,rfl⟩:=h
  have q:ReIs L X e:=hp _ (List.mem_cons_of_mem _ (List.mem_cons_of_mem _ (List.mem_cons_self ..)))
  obtain ⟨rfl,rfl⟩:=q
  exact C_rents_ok L _ _ _ _ _ rfl (fun q hq=>(by
   simp only [List.mem_cons,List.not_mem_nil,or_false] at hq
   rcases hq with rfl|rfl<;>first|exact hp _ (List.mem_cons_self ..)|exact hp _ (List.mem_cons_of_mem _ (List.mem_cons_self ..)))) w e_ vs hM ha
 ·cases h
theorem R_rentN (L:List (List UInt8)) (X:List Rw) (e:Int):RowOk Try.prog Id' hardD 62 (ctrF Id' (C_rentN L X e) hardD):=ctrF_ok Try.call62 (C_rentN_ok L X e)
end Go.Proofs.Ytdenmoiaiemokaa
set_option linter.unusedVariables false
set_option linter.unusedSimpArgs false
namespace Go.Proofs.Ytdenmoiaiemokaa
open Go.RowKit
def lvR:List Rw:=[⟨[2,1,2],[⟨#[97]⟩]⟩]
set_option maxRecDepth 100000 in
theorem lvs_w0 (L:List (List UInt8)) (X:List Rw) (h0:L.length≤100∧∀ l∈L,l.length≤100000) (h1:DbIs lvR L 0) (h2:DeIs L X 0) (h3:((0:Int)==(0:Int)&&(0:Int)==(0:Int)&&(L.length:Int)==(1:Int))=true) (h4:sameR lvR X=true):∃ qs,wayO Id' ([]:Mem Td).length [] (svV (.bool true)) ((runFn (⟨Try.prog,[(58,ctrF Id' (C_dblkN L 0) hardD),(61,ctrF Id' (C_dentN L X 0) hardD),(63,ctrF Id' C_rsame hardD)],[],dkHo,Id'.one,60⟩:Sy Td) [(100002,mapG (modAt wkE 0) (⟨Try.prog,[(58,ctrF Id' (C_dblkN L 0) hardD)],[],dkHo,Id'.one,60⟩:Sy Td) 35 (regO 2 (bodyOf Try.f60)) (drwR 2 (bodyOf Try.f60))),(100003,mapG (modAt wkE 1) (⟨Try.prog,[(61,ctrF Id' (C_dentN L X 0) hardD)],[],dkHo,Id'.one,60⟩:Sy Td) 35 (regO 3 (bodyOf Try.f60)) (drwR 3 (bodyOf Try.f60)))] Try.f60 [] []).al [true])=some qs∧∀ q∈qs,q:=
 ⟨[lvR.length≤(1000:Nat),DbIs lvR L (0:Int),(1:Nat)=(1:Nat)∧L.length=L.length∧tbE L=tbE L,L.length≤(100:Nat)∧∀ (l:List UInt8),l∈L→l.length≤(100000:Nat),DeIs L X (0:Int),((0:Int)==(0:Int)&&(0:Int)==(0:Int)&&(↑L.length:Int)==(1:Int))=true,lvR.length≤(100000:Nat),((0:Int)==(0:Int)&&(0:Int)==(0:Int)&&(↑L.length:Int)==(1:Int))=true,Value.bool (sameR lvR X)=Value.bool true],by kernel_rfl,(by refine mcons ?_ (mcons ?_ (mcons ?_ (mcons ?_ (mcons ?_ (mcons ?_ (mcons ?_ (mcons ?_ (mcons ?_ mnil))))))))<;>first|exact h0|exact h1|exact h2|exact h3|(exact congrArg Value.bool h4)|(exact (by decide:(1:Nat)≤1000))|(exact (by decide:(1:Nat)≤100000))|exact h0|exact h1|exact h2|exact h3|exact h4|trivial|(exact ⟨rfl,rfl,rfl⟩)|(exact congrArg Value.bool h4)|(exact (by decide:(1:Nat)≤1000))|(exact (by decide:(1:Nat)≤100000)))⟩
theorem lvE:dbE lvR=0:=by decide +kernel
theorem lvN:lvR.map nrm4=lvR:=rfl
theorem lvL:(dbB lvR).length=1:=by decide +kernel
theorem deE_ok {L:List (List UInt8)} (h:deOk L=true):deE L=0:=by unfold deE;rw [h];rfl
theorem dbB_wid (R:List Rw):∀ l∈dbB R,l.length≤100000:=fun l hl=>by
 rw [dbB_is] at hl
 have:=(rbB_good R l hl).1
 omega
def C_lives:Ctr Td:=fun us sub=>match us,sub with
 |[],[]=>some ([],svV (.bool true),[])
 |_,_=>none
set_option maxRecDepth 100000 in
theorem C_lives_ok:CtrOk Try.prog Id' 60 C_lives:=by
 intro us sub ps x sm h hp w e vs hM ha
 unfold C_lives at h
 split at h
 ·skip
  simp only [Option.some.injEq,Prod.mk.injEq] at h
  obtain ⟨rfl,rfl,rfl⟩:=h
  exact ctr_way (I:=Id') (fun (W0:World) (G:Nat→Prop)=>SyOk.mk2 Try.mixed dkHo_ok (FnsR.cons ((R_dblkN (dbB lvR) 0)) (FnsR.cons ((R_dentN (dbB lvR) lvR 0)) (FnsR.cons (R_rsame) (FnsR.nil)))) EqsOk.nil) rfl Try.func60 (by kernel_rfl) (fun W0 G=>LpsOk.cons (by kernel_rfl) (mapG_sound (id:=2) ((fun (W0:World) (G:Nat→Prop)=>SyOk.mk2 Try.mixed dkHo_ok (FnsR.cons ((R_dblkN (dbB lvR) 0)) (FnsR.nil)) EqsOk.nil) W0 G) rfl (fun w e mem h=>wk_ok (W0:=W0) (G:=G) 0 w e mem h)) (LpsOk.cons (by kernel_rfl) (mapG_sound (id:=3) ((fun (W0:World) (G:Nat→Prop)=>SyOk.mk2 Try.mixed dkHo_ok (FnsR.cons ((R_dentN (dbB lvR) lvR 0)) (FnsR.nil)) EqsOk.nil) W0 G) rfl (fun w e mem h=>wk_ok (W0:=W0) (G:=G) 1 w e mem h)) (LpsOk.nil _))) (cs:=[true]) (by kernel_rfl) (lvs_w0 (dbB lvR) lvR ⟨by rw [lvL];decide,dbB_wid lvR⟩ ⟨rfl,lvE⟩ ⟨(back lvE lvN).2,deE_ok (back lvE lvN).1⟩ (by rw [lvL];rfl) (same_refl lvR)) w e vs hM ha
 ·cases h
theorem R_lives:RowOk Try.prog Id' hardD 60 (ctrF Id' C_lives hardD):=ctrF_ok Try.call60 C_lives_ok
end Go.Proofs.Ytdenmoiaiemokaa
set_option linter.unusedVariables false
set_option linter.unusedSimpArgs false
namespace Go.Proofs.Ytdenmoiaiemokaa
open Go.RowKit Go.ChangeShapes Go.WideShapes Go.ChangeAt
theorem args_us {w:World} {e:Env} {mem:Mem Td} (h:MemOk w (FootOf Id' w e mem) Id' w e mem) (hro:∀ n∈mem,n.mu=false) {u:Value} {b:Td} (hb:Id'.holds b w u) (hlt:∀ k,Id'.foot b w u k→k<w.heap.size):MemOk w (FootOf Id' w (e++[u]) (mem++[⟨.us b,false⟩])) Id' w (e++[u]) (mem++[⟨.us b,false⟩]):=by
 have hget:∀ (i:Nat) (v:Value) (n:En Td),(e++[u])[i]? =some v→(mem++[⟨.us b,false⟩])[i]? =some n→(e[i]? =some v∧mem[i]? =some n)∨(v=u∧n=⟨.us b,false⟩):=fun i v n hv hn=>by
  have hl:=h.len
  rcases Nat.lt_or_ge i e.length with hi|hi
  ·rw [List.getElem?_append_left hi] at hv
   rw [List.getElem?_append_left (by omega)] at hn
   exact .inl ⟨hv,hn⟩
  ·rw [List.getElem?_append_right hi] at hv
   rw [List.getElem?_append_right (by omega)] at hn
   rw [hl] at hv
   cases hq:i - mem.length with
   |zero=>rw [hq] at hv hn;simp at hv hn;exact .inr ⟨hv.symm,hn.symm⟩
   |succ q=>rw [hq] at hv;simp at hv
 have hmu:∀ (i:Nat) (v:Value) (n:En Td),(e++[u])[i]? =some v→(mem++[⟨.us b,false⟩])[i]? =some n→n.mu=false:=fun i v n hv hn=>by
  rcases hget i v n hv hn with ⟨_,h2⟩|⟨_,rfl⟩
  ·exact hro n (List.mem_of_getElem? h2)
  ·rfl
 refine ⟨by simp [h.len],fun i v n hv hn=>?_,fun i v n hv hn k hk=>?_,fun i v n hv hn hm=>?_,fun i j v x n m hv hn hm=>?_,Mod.refl _ w,fun i v n hv hn k hk=>.inr (footO.2 ⟨i,v,n,hv,hn,hk⟩)⟩
 ·rcases hget i v n hv hn with ⟨h1,h2⟩|⟨rfl,rfl⟩
  ·exact (h.holds i v n h1 h2).mono (Grows.push e u)
  ·exact hb
 ·rcases hget i v n hv hn with ⟨h1,h2⟩|⟨rfl,rfl⟩
  ·exact h.lt i v n h1 h2 k hk
  ·exact hlt k hk
 ·rw [hmu i v n hv hn] at hm;cases hm
 ·rw [hmu i v n hv hn] at hm;cases hm
theorem rs_lt {w:World} {sz n:Nat} {u:Value} {vals:List Value} (h:Rs w sz u n vals) (hn:n≠0) (hs:0<sz) {k:Nat} (hk:u.ownBlock=some k):k<w.heap.size:=by
 obtain ⟨hl,ao,cap,rfl,h2,h3,h4,h5⟩:=h
 cases ao with
 |none=>cases hk
 |some a=>
  have hlt:0<vals.length:=by rw [hl];exact Nat.mul_pos (by omega) hs
  have:=h5 a rfl 0 _ (List.getElem?_eq_getElem hlt)
  have hb:=World.block_lt_of_cell? w _ this
  rw [add_block] at hb
  cases hk
  exact hb
theorem shr_ltR {w:World} {u:Value} {sz n:Nat} {el:Nat→List CD} (h:dkHolds (.shr sz n el) w u):∀ k,Id'.foot (.ext (.shr sz n el)) w u k→k<w.heap.size:=by
 obtain ⟨hs,vals,hR,hc⟩:=h
 intro k hk
 rcases hk with ⟨hn,hk⟩|⟨i,j,c,v,g1,g2,g3,g4,g5,g6⟩
 ·exact rs_lt hR hn hs hk
 ·have hi:i * sz+j<vals.length:=by rw [hR.1];exact slot_lt g1 g2
  have hv:=List.getElem?_eq_getElem hi
  have:v=vals[i * sz+j]:=cdAt_eq g5 (cd_at hR hv)
  subst this
  have hcd:=hc i j c _ g1 g2 g3 hv
  cases c with
  |v x=>exact g4.elim
  |bs b=>
   have hb:Bs w _ b:=hcd
   have hb':Rs w 1 _ b.length (b.map bv):=hb
   exact rs_lt hb' (fun e=>g4 (List.eq_nil_of_length_eq_zero e)) (by decide) g6
  |ns b=>
   have hb:Is w _ b:=hcd
   have hl:b.length≠0:=fun e=>g4 (List.eq_nil_of_length_eq_zero e)
   have hb':Rs w 1 _ b.length (b.map (Value.int .i64)):=hb
   exact rs_lt hb' hl (by decide) g6
section
variable {H:Type} {enc:TypeId×Value→H} {W:World}
def RowsIs (w:World) (u:Value) (L:List (List UInt8)):Prop:=dkHolds (.shr 1 L.length (tbE L)) w u
theorem read_rowsB {cs:List Value} {fuel:Nat} {x:DataW H×List MemPlace} (h:DataW.trod enc Try.prog W 0 (fun _=>true) true fuel 95 cs=some x):∃ v l,cs=[v]∧RowsIs W v l:=by
 obtain ⟨ao,len,cap,rfl,h1,h2,h3,h4⟩:=read_slice (c:=1) Try.underlying95 (by kernel_rfl) (by decide) h
 obtain ⟨ds,hl,hd⟩:=list_of_lt (p:=fun i (d:Value×List UInt8)=>∃ b o,ao=some ⟨b,o,none⟩∧W.cell? ⟨b,o+i,none⟩=some d.1∧Bs W d.1 d.2) len fun i hi=>by
  obtain ⟨b,o,cs',f,y,e1,e2,e3,e4⟩:=h4 i hi
  obtain ⟨a,p,l,rfl,hb⟩:=read_bytes Try.underlying29 Try.underlying5 (by kernel_rfl) e4
  refine ⟨(_,l),b,o,e1,?_,hb⟩
  have:=e3 0 (by decide)
  simpa using this
 have hll:(ds.map (·.2)).length=len:=by rw [List.length_map];exact hl
 refine ⟨_,ds.map (·.2),rfl,by decide,ds.map (·.1),⟨by rw [List.length_map,hl,hll,Nat.mul_one],ao,cap,by rw [hll],by rw [hll];exact h1,h2,h3,fun a ha p u hu=>?_⟩,fun i j c v hi hj hc hv=>?_⟩
 ·rw [List.getElem?_map] at hu
  cases hq:ds[p]? with
  |none=>rw [hq] at hu;cases hu
  |some d=>
   rw [hq] at hu
   cases hu
   obtain ⟨b,o,e,hc,_⟩:=hd p d hq
   subst ha
   cases e
   rw [Addr.add_mid]
   exact hc
 ·obtain rfl:j=0:=by omega
  simp only [tbE,List.getElem?_cons_zero,Option.some.injEq] at hc
  subst hc
  rw [Nat.mul_one,Nat.add_zero,List.getElem?_map] at hv
  cases hq:ds[i]? with
  |none=>rw [hq] at hv;cases hv
  |some d=>
   rw [hq] at hv
   cases hv
   obtain ⟨_,_,_,_,hb⟩:=hd i d hq
   show Bs W d.1 ((ds.map (·.2)).getD i [])
   rw [List.getD_eq_getElem?_getD,List.getElem?_map,hq]
   exact hb
end
end Go.Proofs.Ytdenmoiaiemokaa
set_option linter.unusedVariables false
set_option linter.unusedSimpArgs false
namespace Go.Proofs.Ytdenmoiaiemokaa
open Go.RowKit
end Go.Proofs.Ytdenmoiaiemokaa
set_option linter.unusedVariables false
set_option linter.unusedSimpArgs false
namespace Go.Proofs.Ytdenmoiaiemokaa
open Go.RowKit
end Go.Proofs.Ytdenmoiaiemokaa
set_option linter.unusedVariables false
set_option linter.unusedSimpArgs false
namespace Go.Proofs.Ytdenmoiaiemokaa
open Go.RowKit
end Go.Proofs.Ytdenmoiaiemokaa
set_option linter.unusedVariables false
set_option linter.unusedSimpArgs false
namespace Go.Proofs.Ytdenmoiaiemokaa
open Go.RowKit
end Go.Proofs.Ytdenmoiaiemokaa
set_option linter.unusedVariables false
set_option linter.unusedSimpArgs false
namespace Go.Proofs.Ytdenmoiaiemokaa
open Go.RowKit
end Go.Proofs.Ytdenmoiaiemokaa
set_option linter.unusedVariables false
set_option linter.unusedSimpArgs false
namespace Go.Proofs.Ytdenmoiaiemokaa
open Go.RowKit
set_option maxRecDepth 100000 in
theorem rcopy_w0 (b:List UInt8) (h0:b.length≤1000000):∃ qs,wayO Id' (([⟨.us (.byt b),false⟩]:Mem Td):Mem Td).length [⟨.us (.byt b),false⟩,⟨.us (.own b),true⟩] (.c (.one (.obj 1))) ((runFn (⟨Try.prog,[],[],dkHo,Id'.one,60⟩:Sy Td) [] Try.f14 [.one (.obj 0)] ([⟨.us (.byt b),false⟩]:Mem Td)).al [])=some qs∧∀ q∈qs,q:=
 ⟨[b.length≤(1000000:Nat),(Th.byt b:Td)=Th.byt b,(Th.own b:Td)=Th.own b],by kernel_rfl,(by refine mcons ?_ (mcons ?_ (mcons ?_ mnil))<;>first|rfl|exact h0|trivial)⟩
def C_rcopy:Ctr Td:=fun us sub=>match us,sub with
 |[.one (.obj 0)],[⟨.us (.byt b),false⟩]=>some ([b.length≤1000000],.c (.one (.obj 1)),[⟨.us (.byt b),false⟩,⟨.us (.own b),true⟩])
 |_,_=>none
set_option maxRecDepth 100000 in
theorem C_rcopy_ok:CtrOk Try.prog Id' 14 C_rcopy:=by
 intro us sub ps x sm h hp w e vs hM ha
 unfold C_rcopy at h
 split at h
 ·rename_i b
  simp only [Option.some.injEq,Prod.mk.injEq] at h
  obtain ⟨rfl,rfl,rfl⟩:=h
  exact ctr_way (I:=Id') (fun (W0:World) (G:Nat→Prop)=>SyOk.mk2 Try.mixed dkHo_ok (FnsR.nil) EqsOk.nil) rfl Try.func14 (by kernel_rfl) (fun _ _=>LpsOk.nil _) (cs:=[]) (by kernel_rfl) (rcopy_w0 b (hp _ (List.mem_cons_self ..))) w e vs hM ha
 ·cases h
end Go.Proofs.Ytdenmoiaiemokaa
set_option linter.unusedVariables false
namespace Go.Proofs.Ytdenmoiaiemokaa
open Go.RowKit
def C_rcopyV:Ctr Td:=fun us sub=>match us,sub with
 |[.one (.obj 0)],[⟨.us (.byt l),false⟩]=>some ([l.length≤1000000],.c (.one (.obj 1)),[⟨.us (.byt l),false⟩,⟨.us (.byt l),false⟩])
 |_,_=>none
theorem C_rcopyV_ok:CtrOk Try.prog Id' 14 C_rcopyV:=by
 intro us sub ps x sm h hp w e vs hM ha
 unfold C_rcopyV at h
 split at h
 ·rename_i l
  simp only [Option.some.injEq,Prod.mk.injEq] at h
  obtain ⟨rfl,rfl,rfl⟩:=h
  exact (C_rcopy_ok _ _ _ _ _ rfl (fun q hq=>by simp only [List.mem_cons,List.not_mem_nil,or_false] at hq;subst hq;exact hp _ (List.mem_cons_self ..)) w e vs hM ha).mono fun y w' ⟨v,e',h1,h2,h3,h4⟩=>⟨v,e',h1,h2,h3,wk_ok 1 w' e' [⟨.us (.byt l),false⟩,⟨.us (.own l),true⟩] h4⟩
 ·cases h
theorem R_rcopyV:RowOk Try.prog Id' hardD 14 (ctrF Id' C_rcopyV hardD):=ctrF_ok Try.call14 C_rcopyV_ok
end Go.Proofs.Ytdenmoiaiemokaa
set_option linter.unusedVariables false
namespace Go.Proofs.Ytdenmoiaiemokaa
open Go.RowKit
theorem shr_like {n:Nat} {el el':Nat→List CD} (h:∀ i,i<n→el i=el' i) {w:World} {u:Value} (hh:dkHolds (.shr 1 n el) w u):dkHolds (.shr 1 n el') w u:=by
 obtain ⟨h0,vals,hR,hc⟩:=hh
 exact ⟨h0,vals,hR,fun i j c v hi hj hcc hv=>hc i j c v hi hj (by rw [h i hi];exact hcc) hv⟩
theorem shr_foot {n:Nat} {el el':Nat→List CD} (h:∀ i,i<n→el i=el' i) {w:World} {u:Value} {k:Nat} (hk:dkFoot (.shr 1 n el) w u k):dkFoot (.shr 1 n el') w u k:=by
 rcases hk with hk|⟨i,j,c,v,g1,g2,g3,g4⟩
 ·exact .inl hk
 ·exact .inr ⟨i,j,c,v,g1,g2,by rw [← h i g1];exact g3,g4⟩
def shE (n:Nat) (el:Nat→List CD):En Td:=⟨.us (.ext (.shr 1 n el)),false⟩
theorem shE_like {n:Nat} {el el':Nat→List CD} (h:∀ i,i<n→el i=el' i) {W0:World} {G:Nat→Prop} {w:World} {e:Env} {m:Mem Td} (hM:MemOk W0 G Id' w e (shE n el::m)):MemOk W0 G Id' w e (shE n el'::m):=hM.like rfl fun i n' hn=>by
 cases i with
 |zero=>
  simp only [List.getElem?_cons_zero,Option.some.injEq] at hn
  subst hn
  exact ⟨shE n el,rfl,rfl,fun u hh=>shr_like h hh,fun u k hk=>shr_foot (fun i hi=>(h i hi).symm) hk,fun u k hk=>hk.elim⟩
 |succ i=>exact ⟨n',hn,rfl,fun u hh=>hh,fun u k hk=>hk,fun u k hk=>hk⟩
theorem shE_footOf {n:Nat} {el el':Nat→List CD} (h:∀ i,i<n→el i=el' i) (w:World) (e:Env):FootOf Id' w e [shE n el]=FootOf Id' w e [shE n el']:=by
 have key:∀ {el el':Nat→List CD},(∀ i,i<n→el i=el' i)→∀ k,ReadOf Id' w e [shE n el] k→ReadOf Id' w e [shE n el'] k:=fun h k ⟨i,u,m,h1,h2,h3⟩=>by
  cases i with
  |zero=>
   simp only [List.getElem?_cons_zero,Option.some.injEq] at h2
   subst h2
   exact ⟨0,u,_,h1,rfl,shr_foot h h3⟩
  |succ i=>simp at h2
 have own:∀ {el:Nat→List CD} k,¬ OwnOf Id' w e [shE n el] k:=fun k ⟨i,u,m,h1,h2,h3,_⟩=>by
  cases i with
  |zero=>simp only [List.getElem?_cons_zero,Option.some.injEq] at h2;subst h2;cases h3
  |succ i=>simp at h2
 funext k
 apply propext
 constructor
 ·rintro (⟨h1,h2⟩|⟨h1,h2⟩)
  ·exact absurd h2 (own _)
  ·exact .inr ⟨h1,fun h3=>h2 (key (fun i hi=>(h i hi).symm) _ h3)⟩
 ·rintro (⟨h1,h2⟩|⟨h1,h2⟩)
  ·exact absurd h2 (own _)
  ·exact .inr ⟨h1,fun h3=>h2 (key h _ h3)⟩
def C_dentF (L:List (List UInt8)) (X:List Rw) (e:Int):Ctr Td:=fun us sub=>match us,sub with
 |[.one (.obj 0)],[⟨.us (.ext (.shr sz n el)),false⟩]=>some ([sz=1∧n=L.length∧∀ i,i<n→el i=tbE L i,L.length≤100∧∀ l∈L,l.length≤100000,DeIs L X e],.tup [.one (.obj 1),.one (.v (.int .i64 e))],[⟨.us (.ext (.shr sz n el)),false⟩,⟨.us (.ext (.vw [true,false,false,false] X)),false⟩])
 |_,_=>none
theorem C_dentF_ok (L:List (List UInt8)) (X:List Rw) (e:Int):CtrOk Try.prog Id' 61 (C_dentF L X e):=by
 intro us sub ps x sm h hp w e_ vs hM ha
 unfold C_dentF at h
 split at h
 ·rename_i sz n el
  simp only [Option.some.injEq,Prod.mk.injEq] at h
  obtain ⟨rfl,rfl,rfl⟩:=h
  obtain ⟨rfl,rfl,hel⟩:=hp _ (List.mem_cons_self ..)
  have q1:=hp _ (List.mem_cons_of_mem _ (List.mem_cons_self ..))
  have q2:=hp _ (List.mem_cons_of_mem _ (List.mem_cons_of_mem _ (List.mem_cons_self ..)))
  have hM':=(shE_like (m:=[]) hel hM).self
  have hF:=shE_footOf hel w e_
  refine (C_dentN_ok L X e [.one (.obj 0)] [shE L.length (tbE L)] _ _ _ rfl (fun q hq=>(by
   simp only [List.mem_cons,List.not_mem_nil,or_false] at hq
   rcases hq with rfl|rfl|rfl
   ·first|exact ⟨rfl,rfl,rfl⟩|simp
   ·exact q1
   ·exact q2)) w e_ vs hM' ha).mono fun y w' ⟨v,e',h1,h2,h3,h4⟩=>⟨v,e',h1,h2,h3,?_⟩
  have h5:=shE_like (m:=[⟨.us (.ext (.vw [true,false,false,false] X)),false⟩]) (fun i hi=>(hel i hi).symm) h4
  rw [← hF] at h5
  exact h5
 ·cases h
theorem R_dentF (L:List (List UInt8)) (X:List Rw) (e:Int):RowOk Try.prog Id' hardD 61 (ctrF Id' (C_dentF L X e) hardD):=ctrF_ok Try.call61 (C_dentF_ok L X e)
end Go.Proofs.Ytdenmoiaiemokaa
set_option linter.unusedVariables false
set_option linter.unusedSimpArgs false
namespace Go.Proofs.Ytdenmoiaiemokaa
open Go.RowKit
section
variable {W0:World} {G:Nat→Prop} {sz:Nat}
def mapB {β:Type} (f:List (Nat×SV)→List (Nat×SV)):Tr β→Tr β
 |.leaf x s=>.leaf x ⟨f s.base,s.mem,s.ver⟩
 |.br b t e=>.br b (mapB f t) (mapB f e)
 |.need ps t=>.need ps (mapB f t)
 |.fail=>.fail
theorem mapB_holds {β:Type} {f:List (Nat×SV)→List (Nat×SV)} {K:SX→SSt β→Prop}:∀ {t:Tr β},(mapB f t).holds K→t.holds fun x s=>K x ⟨f s.base,s.mem,s.ver⟩
 |.leaf _ _,h=>h
 |.br _ _ _,h=>⟨fun hb=>mapB_holds (h.1 hb),fun hb=>mapB_holds (h.2 hb)⟩
 |.need _ _,h=>⟨h.1,mapB_holds h.2⟩
 |.fail,h=>h
theorem mapB_all {β:Type} {f:List (Nat×SV)→List (Nat×SV)} {R R':SSt β→Prop} (hr:∀ s,R s→R' ⟨f s.base,s.mem,s.ver⟩):∀ {t:Tr β},t.all R→(mapB f t).all R'
 |.leaf _ _,h=>hr _ h
 |.br _ _ _,h=>⟨mapB_all hr h.1,mapB_all hr h.2⟩
 |.need _ t,h=>mapB_all (t:=t) hr h
 |.fail,_=>trivial
theorem all_holds {β:Type} {R:SSt β→Prop} {K:SX→SSt β→Prop}:∀ {t:Tr β},t.all R→t.holds K→t.holds fun x s=>R s∧K x s
 |.leaf _ _,h,k=>⟨h,k⟩
 |.br _ _ _,h,k=>⟨fun hb=>all_holds h.1 (k.1 hb),fun hb=>all_holds h.2 (k.2 hb)⟩
 |.need _ t,h,k=>⟨k.1,all_holds (t:=t) h k.2⟩
 |.fail,_,k=>k
theorem FrOk.consB {base:List (Nat×SV)} {e:Env} {a:Act} (h:FrOk [] base e a sz) {t:Nat} {x:SV} (hx:x.is e (a.tmps.getD t undef)):FrOk [] ((t,x)::base) e a sz:=by
 refine ⟨h.defers,h.size,fun u=>?_⟩
 have hs:=h.slot u
 unfold SlotIs at hs ⊢
 simp only [recDst,baseGet] at hs ⊢
 cases hq:eqb t u with
 |true=>
  have:=eqb_eq.1 hq
  subst this
  exact hx
 |false=>exact hs
theorem baseGet_cat (u:Nat):∀ (pre r:List (Nat×SV)),baseGet u (pre++r)=match baseGet u pre with|some x=>some x|none=>baseGet u r
 |[],r=>rfl
 |(t,x)::pre,r=>by
  simp only [List.cons_append,baseGet]
  cases eqb t u with
  |true=>rfl
  |false=>exact baseGet_cat u pre r
def dropB (base b:List (Nat×SV)):List (Nat×SV):=b.take (b.length - (base.length+1))++base
theorem dropB_eq {base pre:List (Nat×SV)} {p:Nat×SV}:dropB base (pre++p::base)=pre++base:=by
 unfold dropB
 rw [List.take_left' (by simp only [List.length_append,List.length_cons];omega)]
theorem FrOk.drop {base pre:List (Nat×SV)} {e:Env} {a:Act} {t i m:Nat} {u0:Value} (h:FrOk [] (pre++(t,.c (.one (.obj m)))::base) e a sz) (ht:∀ p∈pre,p.1≠t) (hb:baseGet t base=some (.c (.one (.obj i)))) (h1:e[i]? =some u0) (h2:e[m]? =some u0):FrOk [] (pre++base) e a sz:=by
 refine ⟨h.defers,h.size,fun u=>?_⟩
 have hs:=h.slot u
 unfold SlotIs at hs ⊢
 simp only [recDst] at hs ⊢
 rw [baseGet_cat] at hs ⊢
 cases hp:baseGet u pre with
 |some x=>rw [hp] at hs;exact hs
 |none=>
  rw [hp] at hs
  simp only [baseGet] at hs ⊢
  cases hq:eqb t u with
  |true=>
   have:=eqb_eq.1 hq
   subst this
   rw [hb]
   rw [hq] at hs
   have hs:e[m]? =some (a.tmps.getD t undef):=hs
   show e[i]? =some _
   rw [h1,←h2,hs]
  |false=>rw [hq] at hs;exact hs
def slK (n k m:Nat):KS:=⟨1,n,fun j=>match eqb j k with|true=>[.obj m]|false=>[.any]⟩
def noW (t:Nat):List Oper→Bool
 |[]=>true
 |o::os=>(match o.dst with|some d=>!eqb d t|none=>true)&&noW t os
theorem noW_mem {t:Nat}:∀ {l:List Oper},noW t l=true→t ∉ l.filterMap (·.dst)
 |[],_=>by simp
 |o::os,h=>by
  simp only [noW,Bool.and_eq_true] at h
  intro hm
  rw [List.filterMap_cons] at hm
  cases ho:o.dst with
  |none=>rw [ho] at hm;exact noW_mem h.2 hm
  |some d=>
   rw [ho] at hm
   rcases List.mem_cons.1 hm with rfl|hm
   ·have:=h.1
    rw [ho] at this
    simp only [eqb_eq.2 rfl] at this
    cases this
   ·exact noW_mem h.2 hm
def preG (S:Sy Td) (sz:Nat) (l:List Oper) (d:Bool) (t k:Nat):SSt Td→Option (Tr Td):=fun s=>match baseGet t s.base,noW t l with
 |some (.c (.one (.obj i))),true=>(match s.mem[i]? with
  |some ⟨.us (.ext (.shr sz1 n el)),false⟩=>(match eqb sz1 1,el k with
   |true,[.bs b]=>forceN s.mem.length fun m=>forceN (m+1) fun m1=>forceN (s.ver+1) fun v=>some (.need [k<n] (mapB (dropB s.base) (regionB S sz l d ⟨(t,.c (.one (.obj m1)))::s.base,s.mem++[⟨.us (.byt b),false⟩]++[⟨.sl (slK n k m) (.byt []),false⟩],v⟩)))
   |_,_=>none)
  |_=>none)
 |_,_=>none
theorem preG_sound {Sq:Sy Td} (hS:SyOk Sq Id' W0 G) {S:Sy Td} (hP:S.P=Sq.P) {id:Nat} {l:List Oper} {d:Bool} {t k:Nat}:FragSound S Id' W0 G sz (.region id l.toArray d) (preG Sq sz l d t k):=by
 intro s tr hg
 unfold preG at hg
 split at hg
 ·rename_i i hb hnw
  split at hg
  ·rename_i sz1 n el hmi
   split at hg
   ·rename_i b hs1 hel
    obtain rfl:=eqb_eq.1 hs1
    simp only [forceN_eq,Option.some.injEq] at hg
    subst hg
    have hal:=regionB_after (S:=Sq) (sz:=sz) (l:=l) (d:=d) (s:=⟨(t,.c (.one (.obj (s.mem.length+1))))::s.base,s.mem++[⟨.us (.byt b),false⟩]++[⟨.sl (slK n k s.mem.length) (.byt []),false⟩],s.ver+1⟩)
    refine ⟨?_,fun K hK Q a w e hfr hM hend=>?_⟩
    ·show Tr.all _ (mapB _ _)
     refine mapB_all (fun s' h=>?_) hal
     obtain ⟨⟨pre,h1,h2⟩,h3,_⟩:=h
     refine ⟨⟨pre,?_,fun p hp=>by simpa [writesC] using h2 p hp⟩,Nat.le_of_succ_le h3,fun hv=>absurd (hv▸h3) (Nat.not_succ_le_self _)⟩
     show dropB s.base s'.base=_
     rw [h1,dropB_eq]
    ·obtain ⟨hps,hK⟩:=hK
     have hkn:k<n:=hps _ (List.mem_cons_self ..)
     rw [hP]
     have hsl:=hfr.slot t
     unfold SlotIs at hsl
     simp only [recDst,hb] at hsl
     have hu0:e[i]? =some (a.tmps.getD t undef):=hsl
     obtain ⟨u0,hu0e⟩:∃ u0,u0=a.tmps.getD t undef:=⟨_,rfl⟩
     rw [← hu0e] at hu0
     obtain ⟨h0,vals,hR,hc⟩:=hM.holds i u0 _ hu0 hmi
     have hl:=hM.len
     have hvk:vals[k]? =some (vals.getD k undef):=by rw [List.getD_eq_getElem?_getD,List.getElem?_eq_getElem (by have:=hR.1;omega)];rfl
     have hbs:Bs w (vals.getD k undef) b:=hc k 0 (.bs b) _ hkn (by decide) (by rw [hel];rfl) (by simpa using hvk)
     have hM1:=hM.share (vals.getD k undef) (.us (.byt b)) hbs fun kk hk=>(by
      obtain ⟨hk1,hk2⟩:=hk
      exact ⟨i,_,_,hu0,hmi,.inr ⟨k,0,.bs b,_,hkn,by decide,by rw [hel];rfl,hk1,(by have:=cd_at hR hvk;simpa using this),hk2⟩,fun h=>by cases h⟩)
     obtain ⟨ao,cap,hcap⟩:∃ ao cap,u0=.slice ao n cap:=by obtain ⟨_,ao,cap,rfl,_⟩:=hR;exact ⟨ao,cap,rfl⟩
     have hsp:∀ aa,ao=some aa→n≠0→aa.spot=none:=fun aa ha hn=>by
      obtain ⟨ao',cap',e1,_,h4⟩:=lenD_is hM (i:=i) (n:=n) (s:=1) (by unfold lenD;rw [hmi]) hu0
      rw [hcap] at e1
      cases e1
      obtain ⟨b',o',e2⟩:=h4 (by omega)
      rw [ha] at e2
      cases e2;rfl
     have hg1:(e++[vals.getD k undef])[i]? =some u0:=Grows.push e _ i u0 hu0
     have hm1:(s.mem++[⟨.us (.byt b),false⟩])[i]? =some (⟨.us (.ext (.shr 1 n el)),false⟩:En Td):=by rw [List.getElem?_append_left (List.getElem?_eq_some_iff.1 hmi).1];exact hmi
     have hM2:=hM1.share u0 (.sl (slK n k s.mem.length) (.byt [])) (by
      obtain ⟨hlen,ao',cap',e1,g1,g2,g3,g4⟩:=hR
      refine ⟨ao',cap',e1,g1,g2,g3,fun aa ha=>⟨fun hn=>?_,fun j hj jj p hp=>?_⟩⟩
      ·rw [hcap] at e1;cases e1
       exact hsp aa ha hn
      ·have hj:j<n:=hj
       have hsp':aa.spot=none:=by
        rw [hcap] at e1;cases e1
        exact hsp aa ha (by omega)
       have hcell:∀ x,vals[j]? =some x→w.cell? ⟨aa.block,aa.off+(j * 1+0),none⟩=some x:=fun x hx=>by
        have:=g4 aa ha j x hx
        have ea:aa.add j=⟨aa.block,aa.off+(j * 1+0),none⟩:=by
         obtain ⟨bb,oo,ss⟩:=aa
         simp only at hsp'
         subst hsp'
         rw [Addr.add_mid];simp
        rw [ea] at this
        exact this
       have hvj:vals[j]? =some (vals.getD j undef):=by rw [List.getD_eq_getElem?_getD,List.getElem?_eq_getElem (by omega)];rfl
       simp only [slK] at hp
       cases hq:eqb j k with
       |true=>
        have:=eqb_eq.1 hq
        subst this
        rw [hq] at hp
        match jj,hp with
        |0,hp=>
         simp at hp;subst hp
         refine ⟨_,hcell _ hvj,?_⟩
         show ((e++[vals.getD j undef])++[u0])[s.mem.length]? =_
         rw [← hl,List.getElem?_append_left (by simp),List.getElem?_append_right (Nat.le_refl _)];simp
        |jj+1,hp=>simp at hp
       |false=>
        rw [hq] at hp
        match jj,hp with
        |0,hp=>simp at hp;subst hp;exact ⟨_,hcell _ hvj,trivial⟩
        |jj+1,hp=>simp at hp) fun kk hk=>⟨i,_,_,hg1,hm1,.inl hk,fun h=>by cases h⟩
     have hgr:Grows e (e++[vals.getD k undef]++[u0]):=(Grows.push e _).trans (Grows.push _ _)
     have hm:(e++[vals.getD k undef]++[u0])[s.mem.length+1]? =some u0:=by
      rw [← hl,List.getElem?_append_right (by simp)];simp
     refine regionB_sound hS (s:=⟨(t,.c (.one (.obj (s.mem.length+1))))::s.base,s.mem++[⟨.us (.byt b),false⟩]++[⟨.sl (slK n k s.mem.length) (.byt []),false⟩],s.ver+1⟩) (all_holds hal (mapB_holds hK)) ((hfr.grow hgr).consB (by show _=some _;rw [hm,hu0e])) hM2 fun s' e' a' w' hg hk hf' hM'=>?_
     obtain ⟨⟨⟨pre,h1,h2⟩,_,_⟩,hk⟩:=hk
     have hf2:=hf'
     rw [h1] at hf2
     have hf3:=hf2.drop (fun p hp e=>noW_mem hnw (e▸h2 p hp)) hb (hg i u0 (hgr i u0 hu0)) (hg _ u0 hm)
     refine hend .normal _ e' a' w' (hgr.trans hg) hk (by show FrOk [] (dropB s.base s'.base) e' a' sz;rw [h1,dropB_eq];exact hf3) hM'
   ·cases hg
  ·cases hg
 ·cases hg
end
end Go.Proofs.Ytdenmoiaiemokaa
set_option linter.unusedVariables false
set_option linter.unusedSimpArgs false
namespace Go.Proofs.Ytdenmoiaiemokaa
open Go.RowKit
def ctL (L:List (List UInt8)):Nat→List (List UInt8)
 |0=>[]
 |k+1=>ctL L k++[(L.getD k []).take 130]
theorem ctL_len (L:List (List UInt8)):∀ k,(ctL L k).length=k
 |0=>rfl
 |k+1=>by simp [ctL,ctL_len L k]
theorem ctL_wid (L:List (List UInt8)):∀ k,∀ l∈ctL L k,l.length≤130
 |0,l,h=>by cases h
 |k+1,l,h=>by
  rcases List.mem_append.1 h with h|h
  ·exact ctL_wid L k l h
  ·rw [List.mem_singleton] at h;subst h;exact List.length_take_le ..
set_option maxRecDepth 100000 in
theorem ent_n0 (L A A2 B B2:List (List UInt8)) (f:Nat→Value) (h0:(decide (((0:Nat):Int)<(L.length:Int))&&decide (((0:Nat):Int)<(7:Int)))=true) (h1:0<L.length) (h2:A.length+1≤100000∧B.length+1≤100000) (h3:A++[(L.getD 0 []).take 130]=A2) (h4:B++[(L.getD 0 []).take 130]=B2):∃ qs,alN Id' 1 [(5,.c (.one (.v (.int .i64 ((1:Nat):Int))))),(3,.c (.one (.obj 1))),(4,.c (.one (.obj 2)))] [⟨.us (.ext (.shr 1 L.length (tbE L))),false⟩,⟨.us (.ext (.tab (.bs A2))),true⟩,⟨.us (.ext (.tab (.bs B2))),true⟩] ((symC (⟨Try.prog,[F_rcut (ξ:=Dk),(14,ctrF Id' C_rcopyV hardD)],[],dkHo,Id'.one,60⟩:Sy Td) [(100005,preG (⟨Try.prog,[F_rcut (ξ:=Dk),(14,ctrF Id' C_rcopyV hardD)],[],dkHo,Id'.one,60⟩:Sy Td) 58 (regO 5 (bodyOf Try.f8)) (drwR 5 (bodyOf Try.f8)) 0 0)] 58 (hdC (loopsC (bodyOf Try.f8)) 0) ⟨[(5,.c (.one (.v (.int .i64 ((0:Nat):Int))))),(3,.c (.one (.obj 1))),(4,.c (.one (.obj 2)))]++anyB' (writesC (hdC (loopsC (bodyOf Try.f8)) 0)) ([(0,.c (.one (.obj 0)))]++tabV f 58),[⟨.us (.ext (.shr 1 L.length (tbE L))),false⟩,⟨.us (.ext (.tab (.bs A))),true⟩,⟨.us (.ext (.tab (.bs B))),true⟩],0⟩).al [true])=some qs∧∀ q∈qs,q:=
 ⟨[(decide ((↑(0:Nat):Int)<(↑L.length:Int))&&decide ((↑(0:Nat):Int)<(7:Int)))=true,(0:Nat)<L.length,(TB.bs B).n+(TB.bs [List.take 130 (L.getD (0:Nat) [])]).n≤(100000:Nat),(130:Nat)≤(9223372036854775807:Nat),(0:Int)≤(↑(0:Nat):Int)∧(↑(0:Nat):Int).toNat<(slK L.length (0:Nat) ((2:Nat)+(1:Nat))).n,(TB.bs A).n+(TB.bs [List.take 130 (L.getD (0:Nat) [])]).n≤(100000:Nat),(List.take 130 (L.getD (0:Nat) [])).length≤(1000000:Nat),(130:Nat)≤(9223372036854775807:Nat),(0:Int)≤(↑(0:Nat):Int)∧(↑(0:Nat):Int).toNat<(slK L.length (0:Nat) ((2:Nat)+(1:Nat))).n,Th.ext (Dk.shr 1 L.length (tbE L))=Th.ext (Dk.shr 1 L.length (tbE L)),(Th.ext (Dk.tab (TB.bs (A++[List.take 130 (L.getD (0:Nat) [])]))):Td)=Th.ext (Dk.tab (TB.bs A2)),(Th.ext (Dk.tab (TB.bs (B++[List.take 130 (L.getD (0:Nat) [])]))):Td)=Th.ext (Dk.tab (TB.bs B2)),Value.int IntKind.i64 (Int.ofNat (((0:Nat)+(1:Nat)) % ((2:Int) ^ IntKind.i64.bits).natAbs))=Value.int IntKind.i64 (Int.ofNat (1:Nat))],by kernel_rfl,(by refine mcons ?_ (mcons ?_ (mcons ?_ (mcons ?_ (mcons ?_ (mcons ?_ (mcons ?_ (mcons ?_ (mcons ?_ (mcons ?_ (mcons ?_ (mcons ?_ (mcons ?_ mnil))))))))))))<;>first|exact h0|exact h1|exact h2.1|exact h2.2|exact h0|exact h1|exact h2|exact h3|exact h4|trivial|(exact h2.1)|(exact h2.2)|(exact ⟨by decide,h1⟩)|(exact (by decide:(130:Nat)≤9223372036854775807))|(exact Nat.le_trans (List.length_take_le ..) (by decide))|(exact congrArg (fun x=>(Th.ext (Dk.tab (TB.bs x)):Td)) h3)|(exact congrArg (fun x=>(Th.ext (Dk.tab (TB.bs x)):Td)) h4))⟩
set_option maxRecDepth 100000 in
theorem ent_n1 (L A A2 B B2:List (List UInt8)) (f:Nat→Value) (h0:(decide (((1:Nat):Int)<(L.length:Int))&&decide (((1:Nat):Int)<(7:Int)))=true) (h1:1<L.length) (h2:A.length+1≤100000∧B.length+1≤100000) (h3:A++[(L.getD 1 []).take 130]=A2) (h4:B++[(L.getD 1 []).take 130]=B2):∃ qs,alN Id' 1 [(5,.c (.one (.v (.int .i64 ((2:Nat):Int))))),(3,.c (.one (.obj 1))),(4,.c (.one (.obj 2)))] [⟨.us (.ext (.shr 1 L.length (tbE L))),false⟩,⟨.us (.ext (.tab (.bs A2))),true⟩,⟨.us (.ext (.tab (.bs B2))),true⟩] ((symC (⟨Try.prog,[F_rcut (ξ:=Dk),(14,ctrF Id' C_rcopyV hardD)],[],dkHo,Id'.one,60⟩:Sy Td) [(100005,preG (⟨Try.prog,[F_rcut (ξ:=Dk),(14,ctrF Id' C_rcopyV hardD)],[],dkHo,Id'.one,60⟩:Sy Td) 58 (regO 5 (bodyOf Try.f8)) (drwR 5 (bodyOf Try.f8)) 0 1)] 58 (hdC (loopsC (bodyOf Try.f8)) 0) ⟨[(5,.c (.one (.v (.int .i64 ((1:Nat):Int))))),(3,.c (.one (.obj 1))),(4,.c (.one (.obj 2)))]++anyB' (writesC (hdC (loopsC (bodyOf Try.f8)) 0)) ([(0,.c (.one (.obj 0)))]++tabV f 58),[⟨.us (.ext (.shr 1 L.length (tbE L))),false⟩,⟨.us (.ext (.tab (.bs A))),true⟩,⟨.us (.ext (.tab (.bs B))),true⟩],0⟩).al [true])=some qs∧∀ q∈qs,q:=
 ⟨[(decide ((↑(1:Nat):Int)<(↑L.length:Int))&&decide ((↑(1:Nat):Int)<(7:Int)))=true,(1:Nat)<L.length,(TB.bs B).n+(TB.bs [List.take 130 (L.getD (1:Nat) [])]).n≤(100000:Nat),(130:Nat)≤(9223372036854775807:Nat),(0:Int)≤(↑(1:Nat):Int)∧(↑(1:Nat):Int).toNat<(slK L.length (1:Nat) ((2:Nat)+(1:Nat))).n,(TB.bs A).n+(TB.bs [List.take 130 (L.getD (1:Nat) [])]).n≤(100000:Nat),(List.take 130 (L.getD (1:Nat) [])).length≤(1000000:Nat),(130:Nat)≤(9223372036854775807:Nat),(0:Int)≤(↑(1:Nat):Int)∧(↑(1:Nat):Int).toNat<(slK L.length (1:Nat) ((2:Nat)+(1:Nat))).n,Th.ext (Dk.shr 1 L.length (tbE L))=Th.ext (Dk.shr 1 L.length (tbE L)),(Th.ext (Dk.tab (TB.bs (A++[List.take 130 (L.getD (1:Nat) [])]))):Td)=Th.ext (Dk.tab (TB.bs A2)),(Th.ext (Dk.tab (TB.bs (B++[List.take 130 (L.getD (1:Nat) [])]))):Td)=Th.ext (Dk.tab (TB.bs B2)),Value.int IntKind.i64 (Int.ofNat (((1:Nat)+(1:Nat)) % ((2:Int) ^ IntKind.i64.bits).natAbs))=Value.int IntKind.i64 (Int.ofNat (2:Nat))],by kernel_rfl,(by refine mcons ?_ (mcons ?_ (mcons ?_ (mcons ?_ (mcons ?_ (mcons ?_ (mcons ?_ (mcons ?_ (mcons ?_ (mcons ?_ (mcons ?_ (mcons ?_ (mcons ?_ mnil))))))))))))<;>first|exact h0|exact h1|exact h2.1|exact h2.2|exact h0|exact h1|exact h2|exact h3|exact h4|trivial|(exact h2.1)|(exact h2.2)|(exact ⟨by decide,h1⟩)|(exact (by decide:(130:Nat)≤9223372036854775807))|(exact Nat.le_trans (List.length_take_le ..) (by decide))|(exact congrArg (fun x=>(Th.ext (Dk.tab (TB.bs x)):Td)) h3)|(exact congrArg (fun x=>(Th.ext (Dk.tab (TB.bs x)):Td)) h4))⟩
set_option maxRecDepth 100000 in
theorem ent_n2 (L A A2 B B2:List (List UInt8)) (f:Nat→Value) (h0:(decide (((2:Nat):Int)<(L.length:Int))&&decide (((2:Nat):Int)<(7:Int)))=true) (h1:2<L.length) (h2:A.length+1≤100000∧B.length+1≤100000) (h3:A++[(L.getD 2 []).take 130]=A2) (h4:B++[(L.getD 2 []).take 130]=B2):∃ qs,alN Id' 1 [(5,.c (.one (.v (.int .i64 ((3:Nat):Int))))),(3,.c (.one (.obj 1))),(4,.c (.one (.obj 2)))] [⟨.us (.ext (.shr 1 L.length (tbE L))),false⟩,⟨.us (.ext (.tab (.bs A2))),true⟩,⟨.us (.ext (.tab (.bs B2))),true⟩] ((symC (⟨Try.prog,[F_rcut (ξ:=Dk),(14,ctrF Id' C_rcopyV hardD)],[],dkHo,Id'.one,60⟩:Sy Td) [(100005,preG (⟨Try.prog,[F_rcut (ξ:=Dk),(14,ctrF Id' C_rcopyV hardD)],[],dkHo,Id'.one,60⟩:Sy Td) 58 (regO 5 (bodyOf Try.f8)) (drwR 5 (bodyOf Try.f8)) 0 2)] 58 (hdC (loopsC (bodyOf Try.f8)) 0) ⟨[(5,.c (.one (.v (.int .i64 ((2:Nat):Int))))),(3,.c (.one (.obj 1))),(4,.c (.one (.obj 2)))]++anyB' (writesC (hdC (loopsC (bodyOf Try.f8)) 0)) ([(0,.c (.one (.obj 0)))]++tabV f 58),[⟨.us (.ext (.shr 1 L.length (tbE L))),false⟩,⟨.us (.ext (.tab (.bs A))),true⟩,⟨.us (.ext (.tab (.bs B))),true⟩],0⟩).al [true])=some qs∧∀ q∈qs,q:=
 ⟨[(decide ((↑(2:Nat):Int)<(↑L.length:Int))&&decide ((↑(2:Nat):Int)<(7:Int)))=true,(2:Nat)<L.length,(TB.bs B).n+(TB.bs [List.take 130 (L.getD (2:Nat) [])]).n≤(100000:Nat),(130:Nat)≤(9223372036854775807:Nat),(0:Int)≤(↑(2:Nat):Int)∧(↑(2:Nat):Int).toNat<(slK L.length (2:Nat) ((2:Nat)+(1:Nat))).n,(TB.bs A).n+(TB.bs [List.take 130 (L.getD (2:Nat) [])]).n≤(100000:Nat),(List.take 130 (L.getD (2:Nat) [])).length≤(1000000:Nat),(130:Nat)≤(9223372036854775807:Nat),(0:Int)≤(↑(2:Nat):Int)∧(↑(2:Nat):Int).toNat<(slK L.length (2:Nat) ((2:Nat)+(1:Nat))).n,Th.ext (Dk.shr 1 L.length (tbE L))=Th.ext (Dk.shr 1 L.length (tbE L)),(Th.ext (Dk.tab (TB.bs (A++[List.take 130 (L.getD (2:Nat) [])]))):Td)=Th.ext (Dk.tab (TB.bs A2)),(Th.ext (Dk.tab (TB.bs (B++[List.take 130 (L.getD (2:Nat) [])]))):Td)=Th.ext (Dk.tab (TB.bs B2)),Value.int IntKind.i64 (Int.ofNat (((2:Nat)+(1:Nat)) % ((2:Int) ^ IntKind.i64.bits).natAbs))=Value.int IntKind.i64 (Int.ofNat (3:Nat))],by kernel_rfl,(by refine mcons ?_ (mcons ?_ (mcons ?_ (mcons ?_ (mcons ?_ (mcons ?_ (mcons ?_ (mcons ?_ (mcons ?_ (mcons ?_ (mcons ?_ (mcons ?_ (mcons ?_ mnil))))))))))))<;>first|exact h0|exact h1|exact h2.1|exact h2.2|exact h0|exact h1|exact h2|exact h3|exact h4|trivial|(exact h2.1)|(exact h2.2)|(exact ⟨by decide,h1⟩)|(exact (by decide:(130:Nat)≤9223372036854775807))|(exact Nat.le_trans (List.length_take_le ..) (by decide))|(exact congrArg (fun x=>(Th.ext (Dk.tab (TB.bs x)):Td)) h3)|(exact congrArg (fun x=>(Th.ext (Dk.tab (TB.bs x)):Td)) h4))⟩
set_option maxRecDepth 100000 in
theorem ent_n3 (L A A2 B B2:List (List UInt8)) (f:Nat→Value) (h0:(decide (((3:Nat):Int)<(L.length:Int))&&decide (((3:Nat):Int)<(7:Int)))=true) (h1:3<L.length) (h2:A.length+1≤100000∧B.length+1≤100000) (h3:A++[(L.getD 3 []).take 130]=A2) (h4:B++[(L.getD 3 []).take 130]=B2):∃ qs,alN Id' 1 [(5,.c (.one (.v (.int .i64 ((4:Nat):Int))))),(3,.c (.one (.obj 1))),(4,.c (.one (.obj 2)))] [⟨.us (.ext (.shr 1 L.length (tbE L))),false⟩,⟨.us (.ext (.tab (.bs A2))),true⟩,⟨.us (.ext (.tab (.bs B2))),true⟩] ((symC (⟨Try.prog,[F_rcut (ξ:=Dk),(14,ctrF Id' C_rcopyV hardD)],[],dkHo,Id'.one,60⟩:Sy Td) [(100005,preG (⟨Try.prog,[F_rcut (ξ:=Dk),(14,ctrF Id' C_rcopyV hardD)],[],dkHo,Id'.one,60⟩:Sy Td) 58 (regO 5 (bodyOf Try.f8)) (drwR 5 (bodyOf Try.f8)) 0 3)] 58 (hdC (loopsC (bodyOf Try.f8)) 0) ⟨[(5,.c (.one (.v (.int .i64 ((3:Nat):Int))))),(3,.c (.one (.obj 1))),(4,.c (.one (.obj 2)))]++anyB' (writesC (hdC (loopsC (bodyOf Try.f8)) 0)) ([(0,.c (.one (.obj 0)))]++tabV f 58),[⟨.us (.ext (.shr 1 L.length (tbE L))),false⟩,⟨.us (.ext (.tab (.bs A))),true⟩,⟨.us (.ext (.tab (.bs B))),true⟩],0⟩).al [true])=some qs∧∀ q∈qs,q:=
 ⟨[(decide ((↑(3:Nat):Int)<(↑L.length:Int))&&decide ((↑(3:Nat):Int)<(7:Int)))=true,(3:Nat)<L.length,(TB.bs B).n+(TB.bs [List.take 130 (L.getD (3:Nat) [])]).n≤(100000:Nat),(130:Nat)≤(9223372036854775807:Nat),(0:Int)≤(↑(3:Nat):Int)∧(↑(3:Nat):Int).toNat<(slK L.length (3:Nat) ((2:Nat)+(1:Nat))).n,(TB.bs A).n+(TB.bs [List.take 130 (L.getD (3:Nat) [])]).n≤(100000:Nat),(List.take 130 (L.getD (3:Nat) [])).length≤(1000000:Nat),(130:Nat)≤(9223372036854775807:Nat),(0:Int)≤(↑(3:Nat):Int)∧(↑(3:Nat):Int).toNat<(slK L.length (3:Nat) ((2:Nat)+(1:Nat))).n,Th.ext (Dk.shr 1 L.length (tbE L))=Th.ext (Dk.shr 1 L.length (tbE L)),(Th.ext (Dk.tab (TB.bs (A++[List.take 130 (L.getD (3:Nat) [])]))):Td)=Th.ext (Dk.tab (TB.bs A2)),(Th.ext (Dk.tab (TB.bs (B++[List.take 130 (L.getD (3:Nat) [])]))):Td)=Th.ext (Dk.tab (TB.bs B2)),Value.int IntKind.i64 (Int.ofNat (((3:Nat)+(1:Nat)) % ((2:Int) ^ IntKind.i64.bits).natAbs))=Value.int IntKind.i64 (Int.ofNat (4:Nat))],by kernel_rfl,(by refine mcons ?_ (mcons ?_ (mcons ?_ (mcons ?_ (mcons ?_ (mcons ?_ (mcons ?_ (mcons ?_ (mcons ?_ (mcons ?_ (mcons ?_ (mcons ?_ (mcons ?_ mnil))))))))))))<;>first|exact h0|exact h1|exact h2.1|exact h2.2|exact h0|exact h1|exact h2|exact h3|exact h4|trivial|(exact h2.1)|(exact h2.2)|(exact ⟨by decide,h1⟩)|(exact (by decide:(130:Nat)≤9223372036854775807))|(exact Nat.le_trans (List.length_take_le ..) (by decide))|(exact congrArg (fun x=>(Th.ext (Dk.tab (TB.bs x)):Td)) h3)|(exact congrArg (fun x=>(Th.ext (Dk.tab (TB.bs x)):Td)) h4))⟩
set_option maxRecDepth 100000 in
theorem ent_n4 (L A A2 B B2:List (List UInt8)) (f:Nat→Value) (h0:(decide (((4:Nat):Int)<(L.length:Int))&&decide (((4:Nat):Int)<(7:Int)))=true) (h1:4<L.length) (h2:A.length+1≤100000∧B.length+1≤100000) (h3:A++[(L.getD 4 []).take 130]=A2) (h4:B++[(L.getD 4 []).take 130]=B2):∃ qs,alN Id' 1 [(5,.c (.one (.v (.int .i64 ((5:Nat):Int))))),(3,.c (.one (.obj 1))),(4,.c (.one (.obj 2)))] [⟨.us (.ext (.shr 1 L.length (tbE L))),false⟩,⟨.us (.ext (.tab (.bs A2))),true⟩,⟨.us (.ext (.tab (.bs B2))),true⟩] ((symC (⟨Try.prog,[F_rcut (ξ:=Dk),(14,ctrF Id' C_rcopyV hardD)],[],dkHo,Id'.one,60⟩:Sy Td) [(100005,preG (⟨Try.prog,[F_rcut (ξ:=Dk),(14,ctrF Id' C_rcopyV hardD)],[],dkHo,Id'.one,60⟩:Sy Td) 58 (regO 5 (bodyOf Try.f8)) (drwR 5 (bodyOf Try.f8)) 0 4)] 58 (hdC (loopsC (bodyOf Try.f8)) 0) ⟨[(5,.c (.one (.v (.int .i64 ((4:Nat):Int))))),(3,.c (.one (.obj 1))),(4,.c (.one (.obj 2)))]++anyB' (writesC (hdC (loopsC (bodyOf Try.f8)) 0)) ([(0,.c (.one (.obj 0)))]++tabV f 58),[⟨.us (.ext (.shr 1 L.length (tbE L))),false⟩,⟨.us (.ext (.tab (.bs A))),true⟩,⟨.us (.ext (.tab (.bs B))),true⟩],0⟩).al [true])=some qs∧∀ q∈qs,q:=
 ⟨[(decide ((↑(4:Nat):Int)<(↑L.length:Int))&&decide ((↑(4:Nat):Int)<(7:Int)))=true,(4:Nat)<L.length,(TB.bs B).n+(TB.bs [List.take 130 (L.getD (4:Nat) [])]).n≤(100000:Nat),(130:Nat)≤(9223372036854775807:Nat),(0:Int)≤(↑(4:Nat):Int)∧(↑(4:Nat):Int).toNat<(slK L.length (4:Nat) ((2:Nat)+(1:Nat))).n,(TB.bs A).n+(TB.bs [List.take 130 (L.getD (4:Nat) [])]).n≤(100000:Nat),(List.take 130 (L.getD (4:Nat) [])).length≤(1000000:Nat),(130:Nat)≤(9223372036854775807:Nat),(0:Int)≤(↑(4:Nat):Int)∧(↑(4:Nat):Int).toNat<(slK L.length (4:Nat) ((2:Nat)+(1:Nat))).n,Th.ext (Dk.shr 1 L.length (tbE L))=Th.ext (Dk.shr 1 L.length (tbE L)),(Th.ext (Dk.tab (TB.bs (A++[List.take 130 (L.getD (4:Nat) [])]))):Td)=Th.ext (Dk.tab (TB.bs A2)),(Th.ext (Dk.tab (TB.bs (B++[List.take 130 (L.getD (4:Nat) [])]))):Td)=Th.ext (Dk.tab (TB.bs B2)),Value.int IntKind.i64 (Int.ofNat (((4:Nat)+(1:Nat)) % ((2:Int) ^ IntKind.i64.bits).natAbs))=Value.int IntKind.i64 (Int.ofNat (5:Nat))],by kernel_rfl,(by refine mcons ?_ (mcons ?_ (mcons ?_ (mcons ?_ (mcons ?_ (mcons ?_ (mcons ?_ (mcons ?_ (mcons ?_ (mcons ?_ (mcons ?_ (mcons ?_ (mcons ?_ mnil))))))))))))<;>first|exact h0|exact h1|exact h2.1|exact h2.2|exact h0|exact h1|exact h2|exact h3|exact h4|trivial|(exact h2.1)|(exact h2.2)|(exact ⟨by decide,h1⟩)|(exact (by decide:(130:Nat)≤9223372036854775807))|(exact Nat.le_trans (List.length_take_le ..) (by decide))|(exact congrArg (fun x=>(Th.ext (Dk.tab (TB.bs x)):Td)) h3)|(exact congrArg (fun x=>(Th.ext (Dk.tab (TB.bs x)):Td)) h4))⟩
set_option maxRecDepth 100000 in
theorem ent_n5 (L A A2 B B2:List (List UInt8)) (f:Nat→Value) (h0:(decide (((5:Nat):Int)<(L.length:Int))&&decide (((5:Nat):Int)<(7:Int)))=true) (h1:5<L.length) (h2:A.length+1≤100000∧B.length+1≤100000) (h3:A++[(L.getD 5 []).take 130]=A2) (h4:B++[(L.getD 5 []).take 130]=B2):∃ qs,alN Id' 1 [(5,.c (.one (.v (.int .i64 ((6:Nat):Int))))),(3,.c (.one (.obj 1))),(4,.c (.one (.obj 2)))] [⟨.us (.ext (.shr 1 L.length (tbE L))),false⟩,⟨.us (.ext (.tab (.bs A2))),true⟩,⟨.us (.ext (.tab (.bs B2))),true⟩] ((symC (⟨Try.prog,[F_rcut (ξ:=Dk),(14,ctrF Id' C_rcopyV hardD)],[],dkHo,Id'.one,60⟩:Sy Td) [(100005,preG (⟨Try.prog,[F_rcut (ξ:=Dk),(14,ctrF Id' C_rcopyV hardD)],[],dkHo,Id'.one,60⟩:Sy Td) 58 (regO 5 (bodyOf Try.f8)) (drwR 5 (bodyOf Try.f8)) 0 5)] 58 (hdC (loopsC (bodyOf Try.f8)) 0) ⟨[(5,.c (.one (.v (.int .i64 ((5:Nat):Int))))),(3,.c (.one (.obj 1))),(4,.c (.one (.obj 2)))]++anyB' (writesC (hdC (loopsC (bodyOf Try.f8)) 0)) ([(0,.c (.one (.obj 0)))]++tabV f 58),[⟨.us (.ext (.shr 1 L.length (tbE L))),false⟩,⟨.us (.ext (.tab (.bs A))),true⟩,⟨.us (.ext (.tab (.bs B))),true⟩],0⟩).al [true])=some qs∧∀ q∈qs,q:=
 ⟨[(decide ((↑(5:Nat):Int)<(↑L.length:Int))&&decide ((↑(5:Nat):Int)<(7:Int)))=true,(5:Nat)<L.length,(TB.bs B).n+(TB.bs [List.take 130 (L.getD (5:Nat) [])]).n≤(100000:Nat),(130:Nat)≤(9223372036854775807:Nat),(0:Int)≤(↑(5:Nat):Int)∧(↑(5:Nat):Int).toNat<(slK L.length (5:Nat) ((2:Nat)+(1:Nat))).n,(TB.bs A).n+(TB.bs [List.take 130 (L.getD (5:Nat) [])]).n≤(100000:Nat),(List.take 130 (L.getD (5:Nat) [])).length≤(1000000:Nat),(130:Nat)≤(9223372036854775807:Nat),(0:Int)≤(↑(5:Nat):Int)∧(↑(5:Nat):Int).toNat<(slK L.length (5:Nat) ((2:Nat)+(1:Nat))).n,Th.ext (Dk.shr 1 L.length (tbE L))=Th.ext (Dk.shr 1 L.length (tbE L)),(Th.ext (Dk.tab (TB.bs (A++[List.take 130 (L.getD (5:Nat) [])]))):Td)=Th.ext (Dk.tab (TB.bs A2)),(Th.ext (Dk.tab (TB.bs (B++[List.take 130 (L.getD (5:Nat) [])]))):Td)=Th.ext (Dk.tab (TB.bs B2)),Value.int IntKind.i64 (Int.ofNat (((5:Nat)+(1:Nat)) % ((2:Int) ^ IntKind.i64.bits).natAbs))=Value.int IntKind.i64 (Int.ofNat (6:Nat))],by kernel_rfl,(by refine mcons ?_ (mcons ?_ (mcons ?_ (mcons ?_ (mcons ?_ (mcons ?_ (mcons ?_ (mcons ?_ (mcons ?_ (mcons ?_ (mcons ?_ (mcons ?_ (mcons ?_ mnil))))))))))))<;>first|exact h0|exact h1|exact h2.1|exact h2.2|exact h0|exact h1|exact h2|exact h3|exact h4|trivial|(exact h2.1)|(exact h2.2)|(exact ⟨by decide,h1⟩)|(exact (by decide:(130:Nat)≤9223372036854775807))|(exact Nat.le_trans (List.length_take_le ..) (by decide))|(exact congrArg (fun x=>(Th.ext (Dk.tab (TB.bs x)):Td)) h3)|(exact congrArg (fun x=>(Th.ext (Dk.tab (TB.bs x)):Td)) h4))⟩
set_option maxRecDepth 100000 in
theorem ent_n6 (L A A2 B B2:List (List UInt8)) (f:Nat→Value) (h0:(decide (((6:Nat):Int)<(L.length:Int))&&decide (((6:Nat):Int)<(7:Int)))=true) (h1:6<L.length) (h2:A.length+1≤100000∧B.length+1≤100000) (h3:A++[(L.getD 6 []).take 130]=A2) (h4:B++[(L.getD 6 []).take 130]=B2):∃ qs,alN Id' 1 [(5,.c (.one (.v (.int .i64 ((7:Nat):Int))))),(3,.c (.one (.obj 1))),(4,.c (.one (.obj 2)))] [⟨.us (.ext (.shr 1 L.length (tbE L))),false⟩,⟨.us (.ext (.tab (.bs A2))),true⟩,⟨.us (.ext (.tab (.bs B2))),true⟩] ((symC (⟨Try.prog,[F_rcut (ξ:=Dk),(14,ctrF Id' C_rcopyV hardD)],[],dkHo,Id'.one,60⟩:Sy Td) [(100005,preG (⟨Try.prog,[F_rcut (ξ:=Dk),(14,ctrF Id' C_rcopyV hardD)],[],dkHo,Id'.one,60⟩:Sy Td) 58 (regO 5 (bodyOf Try.f8)) (drwR 5 (bodyOf Try.f8)) 0 6)] 58 (hdC (loopsC (bodyOf Try.f8)) 0) ⟨[(5,.c (.one (.v (.int .i64 ((6:Nat):Int))))),(3,.c (.one (.obj 1))),(4,.c (.one (.obj 2)))]++anyB' (writesC (hdC (loopsC (bodyOf Try.f8)) 0)) ([(0,.c (.one (.obj 0)))]++tabV f 58),[⟨.us (.ext (.shr 1 L.length (tbE L))),false⟩,⟨.us (.ext (.tab (.bs A))),true⟩,⟨.us (.ext (.tab (.bs B))),true⟩],0⟩).al [true])=some qs∧∀ q∈qs,q:=
 ⟨[(decide ((↑(6:Nat):Int)<(↑L.length:Int))&&decide ((↑(6:Nat):Int)<(7:Int)))=true,(6:Nat)<L.length,(TB.bs B).n+(TB.bs [List.take 130 (L.getD (6:Nat) [])]).n≤(100000:Nat),(130:Nat)≤(9223372036854775807:Nat),(0:Int)≤(↑(6:Nat):Int)∧(↑(6:Nat):Int).toNat<(slK L.length (6:Nat) ((2:Nat)+(1:Nat))).n,(TB.bs A).n+(TB.bs [List.take 130 (L.getD (6:Nat) [])]).n≤(100000:Nat),(List.take 130 (L.getD (6:Nat) [])).length≤(1000000:Nat),(130:Nat)≤(9223372036854775807:Nat),(0:Int)≤(↑(6:Nat):Int)∧(↑(6:Nat):Int).toNat<(slK L.length (6:Nat) ((2:Nat)+(1:Nat))).n,Th.ext (Dk.shr 1 L.length (tbE L))=Th.ext (Dk.shr 1 L.length (tbE L)),(Th.ext (Dk.tab (TB.bs (A++[List.take 130 (L.getD (6:Nat) [])]))):Td)=Th.ext (Dk.tab (TB.bs A2)),(Th.ext (Dk.tab (TB.bs (B++[List.take 130 (L.getD (6:Nat) [])]))):Td)=Th.ext (Dk.tab (TB.bs B2)),Value.int IntKind.i64 (Int.ofNat (((6:Nat)+(1:Nat)) % ((2:Int) ^ IntKind.i64.bits).natAbs))=Value.int IntKind.i64 (Int.ofNat (7:Nat))],by kernel_rfl,(by refine mcons ?_ (mcons ?_ (mcons ?_ (mcons ?_ (mcons ?_ (mcons ?_ (mcons ?_ (mcons ?_ (mcons ?_ (mcons ?_ (mcons ?_ (mcons ?_ (mcons ?_ mnil))))))))))))<;>first|exact h0|exact h1|exact h2.1|exact h2.2|exact h0|exact h1|exact h2|exact h3|exact h4|trivial|(exact h2.1)|(exact h2.2)|(exact ⟨by decide,h1⟩)|(exact (by decide:(130:Nat)≤9223372036854775807))|(exact Nat.le_trans (List.length_take_le ..) (by decide))|(exact congrArg (fun x=>(Th.ext (Dk.tab (TB.bs x)):Td)) h3)|(exact congrArg (fun x=>(Th.ext (Dk.tab (TB.bs x)):Td)) h4))⟩
set_option maxRecDepth 100000 in
theorem ent_x (L A A2 B B2:List (List UInt8)) (i:Int) (f:Nat→Value) (h0:(decide (i<(L.length:Int))&&decide (i<(7:Int)))=false) (h1:A=A2) (h2:B=B2):∃ qs,alX Id' 1 0 [(3,.c (.one (.obj 1))),(4,.c (.one (.obj 2)))] [⟨.us (.ext (.shr 1 L.length (tbE L))),false⟩,⟨.us (.ext (.tab (.bs A2))),true⟩,⟨.us (.ext (.tab (.bs B2))),true⟩] ((symC (⟨Try.prog,[F_rcut (ξ:=Dk),(14,ctrF Id' C_rcopyV hardD)],[],dkHo,Id'.one,60⟩:Sy Td) [] 58 (hdC (loopsC (bodyOf Try.f8)) 0) ⟨[(5,.c (.one (.v (.int .i64 i)))),(3,.c (.one (.obj 1))),(4,.c (.one (.obj 2)))]++anyB' (writesC (hdC (loopsC (bodyOf Try.f8)) 0)) ([(0,.c (.one (.obj 0)))]++tabV f 58),[⟨.us (.ext (.shr 1 L.length (tbE L))),false⟩,⟨.us (.ext (.tab (.bs A))),true⟩,⟨.us (.ext (.tab (.bs B))),true⟩],0⟩).al [false])=some qs∧∀ q∈qs,q:=
 ⟨[(decide (i<(↑L.length:Int))&&decide (i<(7:Int)))=false,Th.ext (Dk.shr 1 L.length (tbE L))=Th.ext (Dk.shr 1 L.length (tbE L)),Th.ext (Dk.tab (TB.bs A))=Th.ext (Dk.tab (TB.bs A2)),Th.ext (Dk.tab (TB.bs B))=Th.ext (Dk.tab (TB.bs B2))],by kernel_rfl,(by refine mcons ?_ (mcons ?_ (mcons ?_ (mcons ?_ mnil)))<;>first|rfl|exact h0|exact h1|exact h2|trivial|(exact congrArg (fun x=>(Th.ext (Dk.tab (TB.bs x)):Td)) h1)|(exact congrArg (fun x=>(Th.ext (Dk.tab (TB.bs x)):Td)) h2))⟩
set_option maxRecDepth 100000 in
set_option maxHeartbeats 1000000 in
theorem ent_lp (L:List (List UInt8)) {W0:World} {G:Nat→Prop} (S0:Sy Td) (hS0:S0.P=Try.prog):LoopSound S0 Id' W0 G 58 (hdC (loopsC (bodyOf Try.f8)) 0) (lpG Id' 58 (hdC (loopsC (bodyOf Try.f8)) 0) 1 [(5,.c (.one (.v (.int .i64 ((0:Nat):Int))))),(3,.c (.one (.obj 1))),(4,.c (.one (.obj 2)))] [(0,.c (.one (.obj 0)))] [⟨.us (.ext (.shr 1 L.length (tbE L))),false⟩,⟨.us (.ext (.tab (.bs (ctL L 0)))),true⟩,⟨.us (.ext (.tab (.bs (ctL L 0)))),true⟩] (.leaf (.exit 0) [(3,.c (.one (.obj 1))),(4,.c (.one (.obj 2)))] [⟨.us (.ext (.shr 1 L.length (tbE L))),false⟩,⟨.us (.ext (.tab (.bs (ctL L (min L.length 7))))),true⟩,⟨.us (.ext (.tab (.bs (ctL L (min L.length 7))))),true⟩])):=by
 refine lp_sound (V:=fun k=>[(5,.c (.one (.v (.int .i64 (k:Int))))),(3,.c (.one (.obj 1))),(4,.c (.one (.obj 2)))]) (M:=(fun k=>[⟨.us (.ext (.shr 1 L.length (tbE L))),false⟩,⟨.us (.ext (.tab (.bs (ctL L k)))),true⟩,⟨.us (.ext (.tab (.bs (ctL L k)))),true⟩]:Nat→Mem Td)) (N:=(min L.length 7)) (Ux:=fun k x=>match x with|.exit 0=>some ([(3,.c (.one (.obj 1))),(4,.c (.one (.obj 2)))],([⟨.us (.ext (.shr 1 L.length (tbE L))),false⟩,⟨.us (.ext (.tab (.bs (ctL L (min L.length 7))))),true⟩,⟨.us (.ext (.tab (.bs (ctL L (min L.length 7))))),true⟩]:Mem Td))|_=>none) (X:=fun _ _=>True) (J:=fun k=>k≤(min L.length 7)) (fun k=>by kernel_rfl) (Nat.zero_le _) (fun k hk hJ f=>?_) (fun K hK k x U hk hU hX=>?_)
 ·rw [hS0]
  have hl:=ctL_len L k
  cases hT:(decide ((k:Int)<(L.length:Int))&&decide ((k:Int)<(7:Int))) with
  |false=>
   have hke:k=(min L.length 7):=by
    rw [Bool.and_eq_false_iff] at hT
    rcases hT with h|h<;> · have:=of_decide_eq_false h;omega
   exact rnd_xD (⟨Try.prog,[F_rcut (ξ:=Dk),(14,ctrF Id' C_rcopyV hardD)],[],dkHo,Id'.one,60⟩:Sy Td) rfl ((fun (W0:World) (G:Nat→Prop)=>SyOk.mk2 Try.mixed dkHo_ok (FnsR.cons (F_rcut_ok (J:=dkI) (hx:=hardDk)) (FnsR.cons (R_rcopyV) (FnsR.nil))) EqsOk.nil) W0 G) (ent_x L (ctL L k) (ctL L (min L.length 7)) (ctL L k) (ctL L (min L.length 7)) (k:Int) f hT (by rw [← hke]) (by rw [← hke])) rfl trivial
  |true=>
   have hT':=hT
   rw [Bool.and_eq_true] at hT'
   have h1:=of_decide_eq_true hT'.1
   have h2:=of_decide_eq_true hT'.2
   have hk:k=0∨k=1∨k=2∨k=3∨k=4∨k=5∨k=6:=by omega
   rcases hk with hk|hk|hk|hk|hk|hk|hk
   ·subst hk
    obtain ⟨ps,g1,g2⟩:=ent_n0 L (ctL L 0) (ctL L 1) (ctL L 0) (ctL L 1) f hT (by omega) (by omega) rfl rfl
    exact rnd_n (⟨Try.prog,[F_rcut (ξ:=Dk),(14,ctrF Id' C_rcopyV hardD)],[],dkHo,Id'.one,60⟩:Sy Td) [(100005,preG (⟨Try.prog,[F_rcut (ξ:=Dk),(14,ctrF Id' C_rcopyV hardD)],[],dkHo,Id'.one,60⟩:Sy Td) 58 (regO 5 (bodyOf Try.f8)) (drwR 5 (bodyOf Try.f8)) 0 0)] rfl ((fun (W0:World) (G:Nat→Prop)=>SyOk.mk2 Try.mixed dkHo_ok (FnsR.cons (F_rcut_ok (J:=dkI) (hx:=hardDk)) (FnsR.cons (R_rcopyV) (FnsR.nil))) EqsOk.nil) W0 G) (LpsOk.cons (by kernel_rfl) (preG_sound (id:=5) ((fun (W0:World) (G:Nat→Prop)=>SyOk.mk2 Try.mixed dkHo_ok (FnsR.cons (F_rcut_ok (J:=dkI) (hx:=hardDk)) (FnsR.cons (R_rcopyV) (FnsR.nil))) EqsOk.nil) W0 G) rfl) (LpsOk.nil _)) (m2:=_) (fun w e h=>h) [true] ps g1 g2 rfl rfl (by omega) (by omega)
   ·subst hk
    obtain ⟨ps,g1,g2⟩:=ent_n1 L (ctL L 1) (ctL L 2) (ctL L 1) (ctL L 2) f hT (by omega) (by omega) rfl rfl
    exact rnd_n (⟨Try.prog,[F_rcut (ξ:=Dk),(14,ctrF Id' C_rcopyV hardD)],[],dkHo,Id'.one,60⟩:Sy Td) [(100005,preG (⟨Try.prog,[F_rcut (ξ:=Dk),(14,ctrF Id' C_rcopyV hardD)],[],dkHo,Id'.one,60⟩:Sy Td) 58 (regO 5 (bodyOf Try.f8)) (drwR 5 (bodyOf Try.f8)) 0 1)] rfl ((fun (W0:World) (G:Nat→Prop)=>SyOk.mk2 Try.mixed dkHo_ok (FnsR.cons (F_rcut_ok (J:=dkI) (hx:=hardDk)) (FnsR.cons (R_rcopyV) (FnsR.nil))) EqsOk.nil) W0 G) (LpsOk.cons (by kernel_rfl) (preG_sound (id:=5) ((fun (W0:World) (G:Nat→Prop)=>SyOk.mk2 Try.mixed dkHo_ok (FnsR.cons (F_rcut_ok (J:=dkI) (hx:=hardDk)) (FnsR.cons (R_rcopyV) (FnsR.nil))) EqsOk.nil) W0 G) rfl) (LpsOk.nil _)) (m2:=_) (fun w e h=>h) [true] ps g1 g2 rfl rfl (by omega) (by omega)
   ·subst hk
    obtain ⟨ps,g1,g2⟩:=ent_n2 L (ctL L 2) (ctL L 3) (ctL L 2) (ctL L 3) f hT (by omega) (by omega) rfl rfl
    exact rnd_n (⟨Try.prog,[F_rcut (ξ:=Dk),(14,ctrF Id' C_rcopyV hardD)],[],dkHo,Id'.one,60⟩:Sy Td) [(100005,preG (⟨Try.prog,[F_rcut (ξ:=Dk),(14,ctrF Id' C_rcopyV hardD)],[],dkHo,Id'.one,60⟩:Sy Td) 58 (regO 5 (bodyOf Try.f8)) (drwR 5 (bodyOf Try.f8)) 0 2)] rfl ((fun (W0:World) (G:Nat→Prop)=>SyOk.mk2 Try.mixed dkHo_ok (FnsR.cons (F_rcut_ok (J:=dkI) (hx:=hardDk)) (FnsR.cons (R_rcopyV) (FnsR.nil))) EqsOk.nil) W0 G) (LpsOk.cons (by kernel_rfl) (preG_sound (id:=5) ((fun (W0:World) (G:Nat→Prop)=>SyOk.mk2 Try.mixed dkHo_ok (FnsR.cons (F_rcut_ok (J:=dkI) (hx:=hardDk)) (FnsR.cons (R_rcopyV) (FnsR.nil))) EqsOk.nil) W0 G) rfl) (LpsOk.nil _)) (m2:=_) (fun w e h=>h) [true] ps g1 g2 rfl rfl (by omega) (by omega)
   ·subst hk
    obtain ⟨ps,g1,g2⟩:=ent_n3 L (ctL L 3) (ctL L 4) (ctL L 3) (ctL L 4) f hT (by omega) (by omega) rfl rfl
    exact rnd_n (⟨Try.prog,[F_rcut (ξ:=Dk),(14,ctrF Id' C_rcopyV hardD)],[],dkHo,Id'.one,60⟩:Sy Td) [(100005,preG (⟨Try.prog,[F_rcut (ξ:=Dk),(14,ctrF Id' C_rcopyV hardD)],[],dkHo,Id'.one,60⟩:Sy Td) 58 (regO 5 (bodyOf Try.f8)) (drwR 5 (bodyOf Try.f8)) 0 3)] rfl ((fun (W0:World) (G:Nat→Prop)=>SyOk.mk2 Try.mixed dkHo_ok (FnsR.cons (F_rcut_ok (J:=dkI) (hx:=hardDk)) (FnsR.cons (R_rcopyV) (FnsR.nil))) EqsOk.nil) W0 G) (LpsOk.cons (by kernel_rfl) (preG_sound (id:=5) ((fun (W0:World) (G:Nat→Prop)=>SyOk.mk2 Try.mixed dkHo_ok (FnsR.cons (F_rcut_ok (J:=dkI) (hx:=hardDk)) (FnsR.cons (R_rcopyV) (FnsR.nil))) EqsOk.nil) W0 G) rfl) (LpsOk.nil _)) (m2:=_) (fun w e h=>h) [true] ps g1 g2 rfl rfl (by omega) (by omega)
   ·subst hk
    obtain ⟨ps,g1,g2⟩:=ent_n4 L (ctL L 4) (ctL L 5) (ctL L 4) (ctL L 5) f hT (by omega) (by omega) rfl rfl
    exact rnd_n (⟨Try.prog,[F_rcut (ξ:=Dk),(14,ctrF Id' C_rcopyV hardD)],[],dkHo,Id'.one,60⟩:Sy Td) [(100005,preG (⟨Try.prog,[F_rcut (ξ:=Dk),(14,ctrF Id' C_rcopyV hardD)],[],dkHo,Id'.one,60⟩:Sy Td) 58 (regO 5 (bodyOf Try.f8)) (drwR 5 (bodyOf Try.f8)) 0 4)] rfl ((fun (W0:World) (G:Nat→Prop)=>SyOk.mk2 Try.mixed dkHo_ok (FnsR.cons (F_rcut_ok (J:=dkI) (hx:=hardDk)) (FnsR.cons (R_rcopyV) (FnsR.nil))) EqsOk.nil) W0 G) (LpsOk.cons (by kernel_rfl) (preG_sound (id:=5) ((fun (W0:World) (G:Nat→Prop)=>SyOk.mk2 Try.mixed dkHo_ok (FnsR.cons (F_rcut_ok (J:=dkI) (hx:=hardDk)) (FnsR.cons (R_rcopyV) (FnsR.nil))) EqsOk.nil) W0 G) rfl) (LpsOk.nil _)) (m2:=_) (fun w e h=>h) [true] ps g1 g2 rfl rfl (by omega) (by omega)
   ·subst hk
    obtain ⟨ps,g1,g2⟩:=ent_n5 L (ctL L 5) (ctL L 6) (ctL L 5) (ctL L 6) f hT (by omega) (by omega) rfl rfl
    exact rnd_n (⟨Try.prog,[F_rcut (ξ:=Dk),(14,ctrF Id' C_rcopyV hardD)],[],dkHo,Id'.one,60⟩:Sy Td) [(100005,preG (⟨Try.prog,[F_rcut (ξ:=Dk),(14,ctrF Id' C_rcopyV hardD)],[],dkHo,Id'.one,60⟩:Sy Td) 58 (regO 5 (bodyOf Try.f8)) (drwR 5 (bodyOf Try.f8)) 0 5)] rfl ((fun (W0:World) (G:Nat→Prop)=>SyOk.mk2 Try.mixed dkHo_ok (FnsR.cons (F_rcut_ok (J:=dkI) (hx:=hardDk)) (FnsR.cons (R_rcopyV) (FnsR.nil))) EqsOk.nil) W0 G) (LpsOk.cons (by kernel_rfl) (preG_sound (id:=5) ((fun (W0:World) (G:Nat→Prop)=>SyOk.mk2 Try.mixed dkHo_ok (FnsR.cons (F_rcut_ok (J:=dkI) (hx:=hardDk)) (FnsR.cons (R_rcopyV) (FnsR.nil))) EqsOk.nil) W0 G) rfl) (LpsOk.nil _)) (m2:=_) (fun w e h=>h) [true] ps g1 g2 rfl rfl (by omega) (by omega)
   ·subst hk
    obtain ⟨ps,g1,g2⟩:=ent_n6 L (ctL L 6) (ctL L 7) (ctL L 6) (ctL L 7) f hT (by omega) (by omega) rfl rfl
    exact rnd_n (⟨Try.prog,[F_rcut (ξ:=Dk),(14,ctrF Id' C_rcopyV hardD)],[],dkHo,Id'.one,60⟩:Sy Td) [(100005,preG (⟨Try.prog,[F_rcut (ξ:=Dk),(14,ctrF Id' C_rcopyV hardD)],[],dkHo,Id'.one,60⟩:Sy Td) 58 (regO 5 (bodyOf Try.f8)) (drwR 5 (bodyOf Try.f8)) 0 6)] rfl ((fun (W0:World) (G:Nat→Prop)=>SyOk.mk2 Try.mixed dkHo_ok (FnsR.cons (F_rcut_ok (J:=dkI) (hx:=hardDk)) (FnsR.cons (R_rcopyV) (FnsR.nil))) EqsOk.nil) W0 G) (LpsOk.cons (by kernel_rfl) (preG_sound (id:=5) ((fun (W0:World) (G:Nat→Prop)=>SyOk.mk2 Try.mixed dkHo_ok (FnsR.cons (F_rcut_ok (J:=dkI) (hx:=hardDk)) (FnsR.cons (R_rcopyV) (FnsR.nil))) EqsOk.nil) W0 G) rfl) (LpsOk.nil _)) (m2:=_) (fun w e h=>h) [true] ps g1 g2 rfl rfl (by omega) (by omega)
 ·revert hU
  match x with
  |.exit 0=>intro hU;simp only [Option.some.injEq] at hU;subst hU;exact hK
  |.normal=>intro hU;cases hU
  |.ret=>intro hU;cases hU
  |.exit (n+1)=>intro hU;cases hU
end Go.Proofs.Ytdenmoiaiemokaa
set_option linter.unusedVariables false
set_option linter.unusedSimpArgs false
namespace Go.Proofs.Ytdenmoiaiemokaa
open Go.RowKit
theorem tabNilB:∀ (w:World),Id'.holds (Th.ext (Dk.tab (TB.bs []))) w nilV∧∀ (j:Nat),¬Id'.foot (Th.ext (Dk.tab (TB.bs []))) w nilV j:=fun w=>⟨⟨(fun r hr=>by cases hr),(fun r hr=>by cases hr),[],rfl,⟨0,Nat.zero_le _,World.ownsRow_nil _ _ _ _⟩,(fun i v r hv=>by simp at hv)⟩,(fun j h=>by
 rcases h with h|⟨i,r,v,h,_⟩
 ·cases h
 ·simp [TB.R] at h)⟩
set_option maxRecDepth 100000 in
theorem lde_w0 (L:List (List UInt8)) (X:List Rw) (e:Int) (h0:(ctL L (min L.length 7)).length≤100∧∀ l∈(ctL L (min L.length 7)),l.length≤100000) (h1:DeIs (ctL L (min L.length 7)) X e) (h2:ReIs (ctL L (min L.length 7)) X e) (h3:(sameR X X&&e==e)=true) (h4:X.length≤100000):∃ qs,wayO Id' ([⟨.us (.ext (.shr 1 L.length (tbE L))),false⟩]:Mem Td).length [⟨.us (.ext (.shr 1 L.length (tbE L))),false⟩] (svV (.bool true)) ((runFn (⟨Try.prog,[(60,ctrF Id' C_lives hardD),(63,ctrF Id' C_rsame hardD)],[],dkHo,Id'.one,60⟩:Sy Td) [(3,(lpG Id' 58 (hdC (loopsC (bodyOf Try.f8)) 0) 1 [(5,.c (.one (.v (.int .i64 ((0:Nat):Int))))),(3,.c (.one (.obj 1))),(4,.c (.one (.obj 2)))] [(0,.c (.one (.obj 0)))] [⟨.us (.ext (.shr 1 L.length (tbE L))),false⟩,⟨.us (.ext (.tab (.bs (ctL L 0)))),true⟩,⟨.us (.ext (.tab (.bs (ctL L 0)))),true⟩] (.leaf (.exit 0) [(3,.c (.one (.obj 1))),(4,.c (.one (.obj 2)))] [⟨.us (.ext (.shr 1 L.length (tbE L))),false⟩,⟨.us (.ext (.tab (.bs (ctL L (min L.length 7))))),true⟩,⟨.us (.ext (.tab (.bs (ctL L (min L.length 7))))),true⟩]))),(100006,mapG (modAt wkE 1) (⟨Try.prog,[(61,ctrF Id' (C_dentF (ctL L (min L.length 7)) X e) hardD)],[],dkHo,Id'.one,60⟩:Sy Td) 58 (regO 6 (bodyOf Try.f8)) (drwR 6 (bodyOf Try.f8))),(100007,mapG (modAt wkE 2) (⟨Try.prog,[(62,ctrF Id' (C_rentN (ctL L (min L.length 7)) X e) hardD)],[],dkHo,Id'.one,60⟩:Sy Td) 58 (regO 7 (bodyOf Try.f8)) (drwR 7 (bodyOf Try.f8)))] Try.f8 [.one (.obj 0)] [⟨.us (.ext (.shr 1 L.length (tbE L))),false⟩]).al [true])=some qs∧∀ q∈qs,q:=
 ⟨[Th.ext (Dk.shr 1 L.length (tbE L))=Th.ext (Dk.shr 1 L.length (tbE L)),∀ (w:World),Id'.holds (Th.ext (Dk.tab (TB.bs (ctL L 0)))) w nilV∧∀ (j:Nat),¬Id'.foot (Th.ext (Dk.tab (TB.bs (ctL L 0)))) w nilV j,∀ (w:World),Id'.holds (Th.ext (Dk.tab (TB.bs (ctL L 0)))) w nilV∧∀ (j:Nat),¬Id'.foot (Th.ext (Dk.tab (TB.bs (ctL L 0)))) w nilV j,Value.int IntKind.i64 (Int.ofNat 0)=Value.int IntKind.i64 (Int.ofNat (0:Nat)),(1:Nat)=(1:Nat)∧(ctL L (min L.length (7:Nat))).length=(ctL L (min L.length (7:Nat))).length∧∀ (i:Nat),i<(ctL L (min L.length (7:Nat))).length→tbE (ctL L (min L.length 7)) i=tbE (ctL L (min L.length 7)) i,(ctL L (min L.length (7:Nat))).length≤(100:Nat)∧∀ (l:List UInt8),l∈ctL L (min L.length (7:Nat))→l.length≤(100000:Nat),DeIs (ctL L (min L.length (7:Nat))) X e,(1:Nat)=(1:Nat)∧(ctL L (min L.length (7:Nat))).length=(ctL L (min L.length (7:Nat))).length∧tbE (ctL L (min L.length (7:Nat)))=tbE (ctL L (min L.length (7:Nat))),(ctL L (min L.length (7:Nat))).length≤(100:Nat),ReIs (ctL L (min L.length (7:Nat))) X e,(sameR X X&&e==e)=true,(sameR X X&&e==e)=true,X.length≤(100000:Nat),Th.ext (Dk.shr 1 L.length (tbE L))=Th.ext (Dk.shr 1 L.length (tbE L)),Value.bool true=Value.bool true],by kernel_rfl,(by refine mcons ?_ (mcons ?_ (mcons ?_ (mcons ?_ (mcons ?_ (mcons ?_ (mcons ?_ (mcons ?_ (mcons ?_ (mcons ?_ (mcons ?_ (mcons ?_ (mcons ?_ (mcons ?_ (mcons ?_ mnil))))))))))))))<;>first|rfl|exact h0|exact h1|exact h2|exact h3|exact h4|trivial|(exact tabNilB)|(exact h0.1)|(exact ⟨rfl,rfl,fun _ _=>rfl⟩)|(exact ⟨rfl,rfl,rfl⟩))⟩
theorem deR_len (L:List (List UInt8)):(deR L).length≤5 * L.length:=by
 unfold deR
 cases deOk L with
 |true=>exact stO_len L L.length
 |false=>exact Nat.zero_le _
set_option maxRecDepth 100000 in
theorem dirEntries_calls (v:Value) (L:List (List UInt8)) (W:World) (h:RowsIs W v L):Calls Try.prog 8 #[v] W fun e w'=>e=.returned (.bool true)∧Below W.heap.size W w':=by
 have hM:=args_us (args_nil Id' W) (fun n hn=>by cases hn) (b:=.ext (.shr 1 L.length (tbE L))) (u:=v) h (shr_ltR h)
 have hl:=ctL_len L (min L.length 7)
 have hw:=ctL_wid L (min L.length 7)
 have hd:=deR_len (ctL L (min L.length 7))
 have hq:(sameR (deR (ctL L (min L.length 7))) (deR (ctL L (min L.length 7)))&&(deE (ctL L (min L.length 7)))==(deE (ctL L (min L.length 7))))=true:=by rw [same_refl];simp
 refine (ctr_way (I:=Id') (fun (W0:World) (G:Nat→Prop)=>SyOk.mk2 Try.mixed dkHo_ok (FnsR.cons (R_lives) (FnsR.cons (R_rsame) (FnsR.nil))) EqsOk.nil) rfl Try.func8 (by kernel_rfl) (fun W0 G=>LpsOk.cons (by kernel_rfl) (ent_lp L _ rfl) (LpsOk.cons (by kernel_rfl) (mapG_sound (id:=6) ((fun (W0:World) (G:Nat→Prop)=>SyOk.mk2 Try.mixed dkHo_ok (FnsR.cons ((R_dentF (ctL L (min L.length 7)) (deR (ctL L (min L.length 7))) (deE (ctL L (min L.length 7))))) (FnsR.nil)) EqsOk.nil) W0 G) rfl (fun w e mem h=>wk_ok (W0:=W0) (G:=G) 1 w e mem h)) (LpsOk.cons (by kernel_rfl) (mapG_sound (id:=7) ((fun (W0:World) (G:Nat→Prop)=>SyOk.mk2 Try.mixed dkHo_ok (FnsR.cons ((R_rentN (ctL L (min L.length 7)) (deR (ctL L (min L.length 7))) (deE (ctL L (min L.length 7))))) (FnsR.nil)) EqsOk.nil) W0 G) rfl (fun w e mem h=>wk_ok (W0:=W0) (G:=G) 2 w e mem h)) (LpsOk.nil _)))) (cs:=[true]) (by kernel_rfl) (lde_w0 L (deR (ctL L (min L.length 7))) (deE (ctL L (min L.length 7))) ⟨by omega,fun l hl=>Nat.le_trans (hw l hl) (by decide)⟩ ⟨rfl,rfl⟩ ⟨(deR_is _).symm,(deE_is _).symm⟩ hq (by omega)) W [v] [v] hM ⟨rfl,trivial⟩).mono fun y w' ⟨u,e',h1,_,h2,h3⟩=>⟨h1.trans (congrArg _ h2),?_⟩
 have hx:Ext W w':=h3.mod.mono fun k _ hk=>by
  obtain ⟨i,_,n,_,hn,hmu,_⟩:=footE.1 hk
  cases i with
  |zero=>simp at hn;subst hn;cases hmu
  |succ i=>simp at hn
 exact hx.below
end Go.Proofs.Ytdenmoiaiemokaa
