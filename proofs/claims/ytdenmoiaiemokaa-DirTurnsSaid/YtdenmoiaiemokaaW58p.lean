/- W34 W35 W36 W37 W56 W57 W58. -/
import Derived.Test.YtdenmoiaiemokaaW33p
import Derived.Test.YtdenmoiaiemokaaW21p
set_option linter.unusedVariables false
set_option linter.unusedSimpArgs false
namespace Go.Proofs.Ytdenmoiaiemokaa
open Go.RowKit
def eqT (L M:List (List UInt8)) (i:Int):Bool:=decide (L.getD i.toNat []=M.getD i.toNat [])
set_option maxRecDepth 100000 in
theorem eqf_n (L M:List (List UInt8)) (i i2:Int) (k:Nat) (f:Nat→Value) (h0:decide (i<(L.length:Int))=true) (h1:IntKind.i64.wrap (i+1)=i2) (h2:0≤i∧i.toNat<L.length) (h3:eqT L M (i)=true) (h4:L.length=M.length):∃ qs,alN Id' 2 [(17,.c (.one (.v (.int .i64 i2))))] [⟨.us (.ext (.shr 1 L.length (tbE L))),false⟩,⟨.us (.ext (.shr 1 M.length (tbE M))),false⟩] ((symC (⟨Try.prog,[F_equal (ξ:=Dk)],[],dkHo,Id'.one,60⟩:Sy Td) [] 32 (hdC (loopsC (bodyOf Try.f126)) 0) ⟨[(17,.c (.one (.v (.int .i64 i))))]++anyB' (writesC (hdC (loopsC (bodyOf Try.f126)) 0)) ([(0,.c (.one (.obj 0))),(1,.c (.one (.obj 1))),(2,.c (.fn 127 [])),(15,.c (.one (.obj 0))),(16,.c (.one (.v (.int .i64 (L.length:Int)))))]++tabV f 32),[⟨.us (.ext (.shr 1 L.length (tbE L))),false⟩,⟨.us (.ext (.shr 1 M.length (tbE M))),false⟩],0⟩).al [true,false])=some qs∧∀ q∈qs,q:=
 ⟨[decide (i<(↑L.length:Int))=true,(0:Int)≤i∧i.toNat<L.length,(0:Int)≤i∧i.toNat<M.length,(!decide (L.getD i.toNat []=M.getD i.toNat []))=false,Th.ext (Dk.shr 1 L.length (tbE L))=Th.ext (Dk.shr 1 L.length (tbE L)),Th.ext (Dk.shr 1 M.length (tbE M))=Th.ext (Dk.shr 1 M.length (tbE M)),Value.int IntKind.i64 (IntKind.i64.wrap (i+(1:Int)))=Value.int IntKind.i64 i2],by kernel_rfl,(by refine mcons ?_ (mcons ?_ (mcons ?_ (mcons ?_ (mcons ?_ (mcons ?_ (mcons ?_ mnil))))))<;>first|rfl|exact h0|exact h1|exact h2|exact h3|exact h4|trivial|(exact congrArg _ h1)|(exact h2)|(exact ⟨h2.1,by omega⟩)|(exact congrArg (! ·) h3))⟩
set_option maxRecDepth 100000 in
theorem eqf_x (L M:List (List UInt8)) (i i2:Int) (k:Nat) (f:Nat→Value) (h0:decide (i<(L.length:Int))=false):∃ qs,alX Id' 2 0 [] [⟨.us (.ext (.shr 1 L.length (tbE L))),false⟩,⟨.us (.ext (.shr 1 M.length (tbE M))),false⟩] ((symC (⟨Try.prog,[F_equal (ξ:=Dk)],[],dkHo,Id'.one,60⟩:Sy Td) [] 32 (hdC (loopsC (bodyOf Try.f126)) 0) ⟨[(17,.c (.one (.v (.int .i64 i))))]++anyB' (writesC (hdC (loopsC (bodyOf Try.f126)) 0)) ([(0,.c (.one (.obj 0))),(1,.c (.one (.obj 1))),(2,.c (.fn 127 [])),(15,.c (.one (.obj 0))),(16,.c (.one (.v (.int .i64 (L.length:Int)))))]++tabV f 32),[⟨.us (.ext (.shr 1 L.length (tbE L))),false⟩,⟨.us (.ext (.shr 1 M.length (tbE M))),false⟩],0⟩).al [false])=some qs∧∀ q∈qs,q:=
 ⟨[decide (i<(↑L.length:Int))=false,Th.ext (Dk.shr 1 L.length (tbE L))=Th.ext (Dk.shr 1 L.length (tbE L)),Th.ext (Dk.shr 1 M.length (tbE M))=Th.ext (Dk.shr 1 M.length (tbE M))],by kernel_rfl,(by refine mcons ?_ (mcons ?_ (mcons ?_ mnil))<;>first|rfl|exact h0|trivial|(exact congrArg _ h1)|(exact h2)|(exact ⟨h2.1,by omega⟩)|(exact congrArg (! ·) h3))⟩
set_option maxRecDepth 100000 in
theorem eqf_r (L M:List (List UInt8)) (i i2:Int) (k:Nat) (f:Nat→Value) (h0:decide (i<(L.length:Int))=true) (h1:IntKind.i64.wrap (i+1)=i2) (h2:0≤i∧i.toNat<L.length) (h3:eqT L M (i)=false) (h4:L.length=M.length):∃ qs,alR Id' 2 [(6,.c (.one (.kB false)))] [⟨.us (.ext (.shr 1 L.length (tbE L))),false⟩,⟨.us (.ext (.shr 1 M.length (tbE M))),false⟩] ((symC (⟨Try.prog,[F_equal (ξ:=Dk)],[],dkHo,Id'.one,60⟩:Sy Td) [] 32 (hdC (loopsC (bodyOf Try.f126)) 0) ⟨[(17,.c (.one (.v (.int .i64 i))))]++anyB' (writesC (hdC (loopsC (bodyOf Try.f126)) 0)) ([(0,.c (.one (.obj 0))),(1,.c (.one (.obj 1))),(2,.c (.fn 127 [])),(15,.c (.one (.obj 0))),(16,.c (.one (.v (.int .i64 (L.length:Int)))))]++tabV f 32),[⟨.us (.ext (.shr 1 L.length (tbE L))),false⟩,⟨.us (.ext (.shr 1 M.length (tbE M))),false⟩],0⟩).al [true,true])=some qs∧∀ q∈qs,q:=
 ⟨[decide (i<(↑L.length:Int))=true,(0:Int)≤i∧i.toNat<L.length,(0:Int)≤i∧i.toNat<M.length,(!decide (L.getD i.toNat []=M.getD i.toNat []))=true,Th.ext (Dk.shr 1 L.length (tbE L))=Th.ext (Dk.shr 1 L.length (tbE L)),Th.ext (Dk.shr 1 M.length (tbE M))=Th.ext (Dk.shr 1 M.length (tbE M)),Value.bool false=Value.bool false],by kernel_rfl,(by refine mcons ?_ (mcons ?_ (mcons ?_ (mcons ?_ (mcons ?_ (mcons ?_ (mcons ?_ mnil))))))<;>first|rfl|exact h0|exact h1|exact h2|exact h3|exact h4|trivial|(exact congrArg _ h1)|(exact h2)|(exact ⟨h2.1,by omega⟩)|(exact congrArg (! ·) h3))⟩
set_option maxRecDepth 100000 in
theorem eqf_lpA (L M:List (List UInt8)) (hL:L.length≤100000) (x0:L.length=M.length) (hall:∀ i:Int,0≤i→i.toNat<L.length→eqT L M (i)=true) {W0:World} {G:Nat→Prop} (S0:Sy Td) (hS0:S0.P=Try.prog):LoopSound S0 Id' W0 G 32 (hdC (loopsC (bodyOf Try.f126)) 0) (lpG Id' 32 (hdC (loopsC (bodyOf Try.f126)) 0) 2 [(17,.c (.one (.v (.int .i64 ((0+0:Nat):Int)))))] [(0,.c (.one (.obj 0))),(1,.c (.one (.obj 1))),(2,.c (.fn 127 [])),(15,.c (.one (.obj 0))),(16,.c (.one (.v (.int .i64 (L.length:Int)))))] [⟨.us (.ext (.shr 1 L.length (tbE L))),false⟩,⟨.us (.ext (.shr 1 M.length (tbE M))),false⟩] (.leaf (.exit 0) [] [⟨.us (.ext (.shr 1 L.length (tbE L))),false⟩,⟨.us (.ext (.shr 1 M.length (tbE M))),false⟩])):=by
 refine lp_sound (V:=fun k=>[(17,.c (.one (.v (.int .i64 ((k+0:Nat):Int)))))]) (M:=(fun k=>[⟨.us (.ext (.shr 1 L.length (tbE L))),false⟩,⟨.us (.ext (.shr 1 M.length (tbE M))),false⟩]:Nat→Mem Td)) (N:=L.length) (Ux:=fun k x=>match x with|.exit 0=>some ([],([⟨.us (.ext (.shr 1 L.length (tbE L))),false⟩,⟨.us (.ext (.shr 1 M.length (tbE M))),false⟩]:Mem Td))|_=>none) (X:=fun _ _=>True) (J:=fun k=>True) (fun k=>by kernel_rfl) trivial (fun k hk hJ f=>?_) (fun K hK k x U hk hU hX=>?_)
 ·rw [hS0]
  cases hT:decide (((k+0:Nat):Int)<(L.length:Int)) with
  |false=>
   exact rnd_xD (⟨Try.prog,[F_equal (ξ:=Dk)],[],dkHo,Id'.one,60⟩:Sy Td) rfl ((fun (W0:World) (G:Nat→Prop)=>SyOk.mk2 Try.mixed dkHo_ok (FnsR.cons (F_equal_ok (J:=dkI) (hx:=hardDk)) (FnsR.nil)) EqsOk.nil) W0 G) (eqf_x L M ((k+0:Nat):Int) ((k+1+0:Nat):Int) k f hT) rfl trivial
  |true=>
   have hk1:=of_decide_eq_true hT
   have hW:IntKind.i64.wrap (((k+0:Nat):Int)+1)=((k+1+0:Nat):Int):=by rw [IntWalk.i64_in _ (by omega)];omega
   exact rnd_nD (⟨Try.prog,[F_equal (ξ:=Dk)],[],dkHo,Id'.one,60⟩:Sy Td) rfl ((fun (W0:World) (G:Nat→Prop)=>SyOk.mk2 Try.mixed dkHo_ok (FnsR.cons (F_equal_ok (J:=dkI) (hx:=hardDk)) (FnsR.nil)) EqsOk.nil) W0 G) (eqf_n L M ((k+0:Nat):Int) ((k+1+0:Nat):Int) k f hT hW (by omega) (hall _ (by omega) (by omega)) x0) rfl rfl (by omega) trivial
 ·revert hU
  match x with
  |.exit 0=>intro hU;simp only [Option.some.injEq] at hU;subst hU;exact hK
  |.normal=>intro hU;cases hU
  |.ret=>intro hU;cases hU
  |.exit (n+1)=>intro hU;cases hU
set_option maxRecDepth 100000 in
theorem eqf_lpR (L M:List (List UInt8)) (hL:L.length≤100000) (x0:L.length=M.length) (hex:∃ i:Int,0≤i∧i.toNat<L.length∧eqT L M (i)=false) {W0:World} {G:Nat→Prop} (S0:Sy Td) (hS0:S0.P=Try.prog):LoopSound S0 Id' W0 G 32 (hdC (loopsC (bodyOf Try.f126)) 0) (lpG Id' 32 (hdC (loopsC (bodyOf Try.f126)) 0) 2 [(17,.c (.one (.v (.int .i64 ((0+0:Nat):Int)))))] [(0,.c (.one (.obj 0))),(1,.c (.one (.obj 1))),(2,.c (.fn 127 [])),(15,.c (.one (.obj 0))),(16,.c (.one (.v (.int .i64 (L.length:Int)))))] [⟨.us (.ext (.shr 1 L.length (tbE L))),false⟩,⟨.us (.ext (.shr 1 M.length (tbE M))),false⟩] (.leaf .ret [(6,.c (.one (.kB false)))] [⟨.us (.ext (.shr 1 L.length (tbE L))),false⟩,⟨.us (.ext (.shr 1 M.length (tbE M))),false⟩])):=by
 refine lp_sound (V:=fun k=>[(17,.c (.one (.v (.int .i64 ((k+0:Nat):Int)))))]) (M:=(fun k=>[⟨.us (.ext (.shr 1 L.length (tbE L))),false⟩,⟨.us (.ext (.shr 1 M.length (tbE M))),false⟩]:Nat→Mem Td)) (N:=L.length) (Ux:=fun k x=>match x with|.ret=>some ([(6,.c (.one (.kB false)))],([⟨.us (.ext (.shr 1 L.length (tbE L))),false⟩,⟨.us (.ext (.shr 1 M.length (tbE M))),false⟩]:Mem Td))|_=>none) (X:=fun _ _=>True) (J:=fun k=>∀ i:Int,0≤i→i<((k+0:Nat):Int)→eqT L M (i)=true) (fun k=>by kernel_rfl) (fun i h0 h1=>by omega) (fun k hk hJ f=>?_) (fun K hK k x U hk hU hX=>?_)
 ·rw [hS0]
  cases hT:decide (((k+0:Nat):Int)<(L.length:Int)) with
  |false=>
   obtain ⟨j,j0,j1,j2⟩:=hex
   have:=of_decide_eq_false hT
   rw [hJ j j0 (by omega)] at j2
   cases j2
  |true=>
   have hk1:=of_decide_eq_true hT
   have hW:IntKind.i64.wrap (((k+0:Nat):Int)+1)=((k+1+0:Nat):Int):=by rw [IntWalk.i64_in _ (by omega)];omega
   cases hq:eqT L M (((k+0:Nat):Int)) with
   |true=>exact rnd_nD (⟨Try.prog,[F_equal (ξ:=Dk)],[],dkHo,Id'.one,60⟩:Sy Td) rfl ((fun (W0:World) (G:Nat→Prop)=>SyOk.mk2 Try.mixed dkHo_ok (FnsR.cons (F_equal_ok (J:=dkI) (hx:=hardDk)) (FnsR.nil)) EqsOk.nil) W0 G) (eqf_n L M ((k+0:Nat):Int) ((k+1+0:Nat):Int) k f hT hW (by omega) hq x0) rfl rfl (by omega) (fun i h0 h1=>by
     by_cases he:i=((k+0:Nat):Int)
     ·subst he;exact hq
     ·exact hJ i h0 (by omega))
   |false=>exact rnd_rD (⟨Try.prog,[F_equal (ξ:=Dk)],[],dkHo,Id'.one,60⟩:Sy Td) rfl ((fun (W0:World) (G:Nat→Prop)=>SyOk.mk2 Try.mixed dkHo_ok (FnsR.cons (F_equal_ok (J:=dkI) (hx:=hardDk)) (FnsR.nil)) EqsOk.nil) W0 G) (eqf_r L M ((k+0:Nat):Int) ((k+1+0:Nat):Int) k f hT hW (by omega) hq x0) rfl trivial
 ·revert hU
  match x with
  |.ret=>intro hU;simp only [Option.some.injEq] at hU;subst hU;exact hK
  |.normal=>intro hU;cases hU
  |.exit n=>intro hU;cases hU
set_option maxRecDepth 100000 in
theorem eqfD_w0 (L M:List (List UInt8)) (h0:(!decide ((L.length:Int)=(M.length:Int)))=true):∃ qs,wayO Id' ([⟨.us (.ext (.shr 1 L.length (tbE L))),false⟩,⟨.us (.ext (.shr 1 M.length (tbE M))),false⟩]:Mem Td).length [⟨.us (.ext (.shr 1 L.length (tbE L))),false⟩,⟨.us (.ext (.shr 1 M.length (tbE M))),false⟩] (svV (.bool false)) ((runFn (⟨Try.prog,[F_equal (ξ:=Dk)],[],dkHo,Id'.one,60⟩:Sy Td) [] Try.f126 [.one (.obj 0),.one (.obj 1),.fn 127 []] [⟨.us (.ext (.shr 1 L.length (tbE L))),false⟩,⟨.us (.ext (.shr 1 M.length (tbE M))),false⟩]).al [true])=some qs∧∀ q∈qs,q:=
 ⟨[((↑L.length:Int) != (↑M.length:Int))=true,Th.ext (Dk.shr 1 L.length (tbE L))=Th.ext (Dk.shr 1 L.length (tbE L)),Th.ext (Dk.shr 1 M.length (tbE M))=Th.ext (Dk.shr 1 M.length (tbE M)),Value.bool false=Value.bool false],by kernel_rfl,(by refine mcons ?_ (mcons ?_ (mcons ?_ (mcons ?_ mnil)))<;>first|rfl|exact h0|trivial)⟩
set_option maxRecDepth 100000 in
theorem eqfA_w0 (L M:List (List UInt8)) (h0:(!decide ((L.length:Int)=(M.length:Int)))=false):∃ qs,wayO Id' ([⟨.us (.ext (.shr 1 L.length (tbE L))),false⟩,⟨.us (.ext (.shr 1 M.length (tbE M))),false⟩]:Mem Td).length [⟨.us (.ext (.shr 1 L.length (tbE L))),false⟩,⟨.us (.ext (.shr 1 M.length (tbE M))),false⟩] (svV (.bool true)) ((runFn (⟨Try.prog,[F_equal (ξ:=Dk)],[],dkHo,Id'.one,60⟩:Sy Td) [(4,(lpG Id' 32 (hdC (loopsC (bodyOf Try.f126)) 0) 2 [(17,.c (.one (.v (.int .i64 ((0+0:Nat):Int)))))] [(0,.c (.one (.obj 0))),(1,.c (.one (.obj 1))),(2,.c (.fn 127 [])),(15,.c (.one (.obj 0))),(16,.c (.one (.v (.int .i64 (L.length:Int)))))] [⟨.us (.ext (.shr 1 L.length (tbE L))),false⟩,⟨.us (.ext (.shr 1 M.length (tbE M))),false⟩] (.leaf (.exit 0) [] [⟨.us (.ext (.shr 1 L.length (tbE L))),false⟩,⟨.us (.ext (.shr 1 M.length (tbE M))),false⟩])))] Try.f126 [.one (.obj 0),.one (.obj 1),.fn 127 []] [⟨.us (.ext (.shr 1 L.length (tbE L))),false⟩,⟨.us (.ext (.shr 1 M.length (tbE M))),false⟩]).al [false])=some qs∧∀ q∈qs,q:=
 ⟨[((↑L.length:Int) != (↑M.length:Int))=false,Value.int IntKind.i64 (↑L.length:Int)=Value.int IntKind.i64 (↑L.length:Int),Th.ext (Dk.shr 1 L.length (tbE L))=Th.ext (Dk.shr 1 L.length (tbE L)),Th.ext (Dk.shr 1 M.length (tbE M))=Th.ext (Dk.shr 1 M.length (tbE M)),Value.int IntKind.i64 (Int.ofNat 0)=Value.int IntKind.i64 (Int.ofNat ((0:Nat)+(0:Nat))),Th.ext (Dk.shr 1 L.length (tbE L))=Th.ext (Dk.shr 1 L.length (tbE L)),Th.ext (Dk.shr 1 M.length (tbE M))=Th.ext (Dk.shr 1 M.length (tbE M)),Value.bool true=Value.bool true],by kernel_rfl,(by refine mcons ?_ (mcons ?_ (mcons ?_ (mcons ?_ (mcons ?_ (mcons ?_ (mcons ?_ (mcons ?_ mnil)))))))<;>first|rfl|exact h0|trivial)⟩
set_option maxRecDepth 100000 in
theorem eqfR_w0 (L M:List (List UInt8)) (h0:(!decide ((L.length:Int)=(M.length:Int)))=false):∃ qs,wayO Id' ([⟨.us (.ext (.shr 1 L.length (tbE L))),false⟩,⟨.us (.ext (.shr 1 M.length (tbE M))),false⟩]:Mem Td).length [⟨.us (.ext (.shr 1 L.length (tbE L))),false⟩,⟨.us (.ext (.shr 1 M.length (tbE M))),false⟩] (svV (.bool false)) ((runFn (⟨Try.prog,[F_equal (ξ:=Dk)],[],dkHo,Id'.one,60⟩:Sy Td) [(4,(lpG Id' 32 (hdC (loopsC (bodyOf Try.f126)) 0) 2 [(17,.c (.one (.v (.int .i64 ((0+0:Nat):Int)))))] [(0,.c (.one (.obj 0))),(1,.c (.one (.obj 1))),(2,.c (.fn 127 [])),(15,.c (.one (.obj 0))),(16,.c (.one (.v (.int .i64 (L.length:Int)))))] [⟨.us (.ext (.shr 1 L.length (tbE L))),false⟩,⟨.us (.ext (.shr 1 M.length (tbE M))),false⟩] (.leaf .ret [(6,.c (.one (.kB false)))] [⟨.us (.ext (.shr 1 L.length (tbE L))),false⟩,⟨.us (.ext (.shr 1 M.length (tbE M))),false⟩])))] Try.f126 [.one (.obj 0),.one (.obj 1),.fn 127 []] [⟨.us (.ext (.shr 1 L.length (tbE L))),false⟩,⟨.us (.ext (.shr 1 M.length (tbE M))),false⟩]).al [false])=some qs∧∀ q∈qs,q:=
 ⟨[((↑L.length:Int) != (↑M.length:Int))=false,Value.int IntKind.i64 (↑L.length:Int)=Value.int IntKind.i64 (↑L.length:Int),Th.ext (Dk.shr 1 L.length (tbE L))=Th.ext (Dk.shr 1 L.length (tbE L)),Th.ext (Dk.shr 1 M.length (tbE M))=Th.ext (Dk.shr 1 M.length (tbE M)),Value.int IntKind.i64 (Int.ofNat 0)=Value.int IntKind.i64 (Int.ofNat ((0:Nat)+(0:Nat))),Th.ext (Dk.shr 1 L.length (tbE L))=Th.ext (Dk.shr 1 L.length (tbE L)),Th.ext (Dk.shr 1 M.length (tbE M))=Th.ext (Dk.shr 1 M.length (tbE M)),Value.bool false=Value.bool false],by kernel_rfl,(by refine mcons ?_ (mcons ?_ (mcons ?_ (mcons ?_ (mcons ?_ (mcons ?_ (mcons ?_ (mcons ?_ mnil)))))))<;>first|rfl|exact h0|trivial)⟩
theorem eqT_all (L M:List (List UInt8)):(decide (L.length=M.length)&&allI 0 L.length (eqT L M))=decide (L=M):=by
 rw [Bool.eq_iff_iff,Bool.and_eq_true,decide_eq_true_iff,decide_eq_true_iff]
 constructor
 ·rintro ⟨h,ha⟩
  rcases allI_cases 0 L.length (eqT L M) with ⟨_,g⟩|⟨g,_⟩
  ·apply List.ext_getElem h
   intro i h1 h2
   have:=of_decide_eq_true (g (i:Int) (by omega) (by omega))
   rw [Int.toNat_natCast,List.getD_eq_getElem?_getD,List.getD_eq_getElem?_getD,List.getElem?_eq_getElem h1,List.getElem?_eq_getElem h2] at this
   exact this
  ·rw [ha] at g;cases g
 ·rintro rfl
  refine ⟨rfl,?_⟩
  rcases allI_cases 0 L.length (eqT L L) with ⟨g,_⟩|⟨_,i,_,_,g⟩
  ·exact g
  ·unfold eqT at g;simp at g
def C_eqf (L M:List (List UInt8)):Ctr Td:=fun us sub=>match us,sub with
 |[.one (.obj 0),.one (.obj 1),.fn 127 []],[⟨.us (.ext (.shr sz n el)),false⟩,⟨.us (.ext (.shr sz2 n2 el2)),false⟩]=>some ([sz=1∧n=L.length∧el=tbE L,sz2=1∧n2=M.length∧el2=tbE M,L.length≤100000],svV (.bool (decide (L=M))),[⟨.us (.ext (.shr sz n el)),false⟩,⟨.us (.ext (.shr sz2 n2 el2)),false⟩])
 |_,_=>none
set_option maxRecDepth 100000 in
theorem C_eqf_ok (L M:List (List UInt8)):CtrOk Try.prog Id' 126 (C_eqf L M):=by
 intro us sub ps x sm h hp w e vs hM ha
 unfold C_eqf at h
 split at h
 ·rename_i sz n el sz2 n2 el2
  simp only [Option.some.injEq,Prod.mk.injEq] at h
  obtain ⟨rfl,rfl,rfl⟩:=h
  obtain ⟨rfl,rfl,rfl⟩:=hp _ (List.mem_cons_self ..)
  obtain ⟨rfl,rfl,rfl⟩:=hp _ (List.mem_cons_of_mem _ (List.mem_cons_self ..))
  have hL:L.length≤100000:=hp _ (List.mem_cons_of_mem _ (List.mem_cons_of_mem _ (List.mem_cons_self ..)))
  rw [← eqT_all]
  cases hq:(!decide ((L.length:Int)=(M.length:Int))) with
  |true=>
   have hv:decide (L.length=M.length)=false:=decide_eq_false (fun e=>by rw [e] at hq;simp at hq)
   rw [hv,Bool.false_and]
   exact ctr_way (I:=Id') (fun (W0:World) (G:Nat→Prop)=>SyOk.mk2 Try.mixed dkHo_ok (FnsR.cons (F_equal_ok (J:=dkI) (hx:=hardDk)) (FnsR.nil)) EqsOk.nil) rfl Try.func126 (by kernel_rfl) (fun _ _=>LpsOk.nil _) (cs:=[true]) (by kernel_rfl) (eqfD_w0 L M hq) w e vs hM ha
  |false=>
   have hd:decide ((L.length:Int)=(M.length:Int))=true:=by simpa using hq
   have hl:L.length=M.length:=by have:=of_decide_eq_true hd;omega
   rw [decide_eq_true hl,Bool.true_and]
   rcases allI_cases 0 L.length (eqT L M) with ⟨ha0,hall⟩|⟨ha0,hex⟩
   ·rw [ha0]
    exact ctr_way (I:=Id') (fun (W0:World) (G:Nat→Prop)=>SyOk.mk2 Try.mixed dkHo_ok (FnsR.cons (F_equal_ok (J:=dkI) (hx:=hardDk)) (FnsR.nil)) EqsOk.nil) rfl Try.func126 (by kernel_rfl) (fun _ _=>LpsOk.cons (by kernel_rfl) (eqf_lpA L M hL hl hall _ rfl) (LpsOk.nil _)) (cs:=[false]) (by kernel_rfl) (eqfA_w0 L M hq) w e vs hM ha
   ·rw [ha0]
    exact ctr_way (I:=Id') (fun (W0:World) (G:Nat→Prop)=>SyOk.mk2 Try.mixed dkHo_ok (FnsR.cons (F_equal_ok (J:=dkI) (hx:=hardDk)) (FnsR.nil)) EqsOk.nil) rfl Try.func126 (by kernel_rfl) (fun _ _=>LpsOk.cons (by kernel_rfl) (eqf_lpR L M hL hl hex _ rfl) (LpsOk.nil _)) (cs:=[false]) (by kernel_rfl) (eqfR_w0 L M hq) w e vs hM ha
 ·cases h
theorem R_eqf (L M:List (List UInt8)):RowOk Try.prog Id' hardD 126 (ctrF Id' (wkC (C_eqf L M)) hardD):=ctrF_ok Try.call126 (wkC_ok (C_eqf_ok L M))
end Go.Proofs.Ytdenmoiaiemokaa
set_option linter.unusedVariables false
set_option linter.unusedSimpArgs false
namespace Go.Proofs.Ytdenmoiaiemokaa
open Go.RowKit
def entG (s:RS):Rw:=⟨[gA s,gB s,gC s],[gNm s]⟩
def stE (X:List Rw) (s:RS):Nat→List Rw×RS
 |0=>(X,s)
 |k+1=>(bif (gNm (stE X s k).2).toList==(⟨#[]⟩:ByteArray).toList then (stE X s k).1 else (stE X s k).1++[entG (stE X s k).2],gE (stE X s k).2)
def stO (L:List (List UInt8)):Nat→List Rw
 |0=>[]
 |k+1=>(stE (stO L k) (RS.new (L.getD k [])) 5).1
set_option maxRecDepth 100000 in
theorem ein_n1 (L:List (List UInt8)) (X Y:List Rw) (s s2:RS) (j j2:Int) (k:Nat) (f:Nat→Value) (h0:decide (j<(5:Int))=true) (h1:((gNm s).toList==(ByteArray.mk #[]).toList)=false) (h2:IntKind.i64.wrap (j+1)=j2) (h3:X.length+1≤100000) (h4:gE s=s2) (h5:X++[entG s]=Y):∃ qs,alN Id' 4 [(19,.c (.one (.v (.int .i64 j2)))),(4,.c (.one (.obj 4)))] [⟨.us (.ext (.shr 1 L.length (tbE L))),false⟩,⟨.dead,true⟩,⟨.dead,true⟩,⟨.us (.rd s2),true⟩,⟨.us (.ext (.flat (.rw 109 [true,false,false,false] Y))),true⟩] ((symC (⟨Try.prog,[(125,ctrF Id' C_dget hardD)],[],dkHo,Id'.one,60⟩:Sy Td) [] 46 (hdC (loopsC (bodyOf Try.f61)) 1) ⟨[(19,.c (.one (.v (.int .i64 j)))),(4,.c (.one (.obj 4)))]++anyB' (writesC (hdC (loopsC (bodyOf Try.f61)) 1)) ([(7,.c (.one (.obj 3)))]++tabV f 46),[⟨.us (.ext (.shr 1 L.length (tbE L))),false⟩,⟨.dead,true⟩,⟨.dead,true⟩,⟨.us (.rd s),true⟩,⟨.us (.ext (.flat (.rw 109 [true,false,false,false] X))),true⟩],0⟩).al [true,true])=some qs∧∀ q∈qs,q:=
 ⟨[decide (j<(5:Int))=true,(!(gNm s).toList==(ByteArray.mk #[]).toList)=true,X.length+[Rw.mk [gA s,gB s,gC s] [gNm s]].length≤(100000:Nat),Th.ext (Dk.shr 1 L.length (tbE L))=Th.ext (Dk.shr 1 L.length (tbE L)),(Th.rd (gE s):Td)=Th.rd s2,(Th.ext (Dk.flat (FL.rw 109 [true,false,false,false] (X++[entG s]))):Td)=Th.ext (Dk.flat (FL.rw 109 [true,false,false,false] Y)),Value.int IntKind.i64 (IntKind.i64.wrap (j+(1:Int)))=Value.int IntKind.i64 j2],by kernel_rfl,(by refine mcons ?_ (mcons ?_ (mcons ?_ (mcons ?_ (mcons ?_ (mcons ?_ (mcons ?_ mnil))))))<;>first|rfl|exact h0|exact h1|exact h2|exact h3|exact h4|exact h5|trivial|(exact congrArg (! ·) h1)|(exact congrArg Th.rd h4)|(exact congrArg (fun x=>(Th.ext (Dk.flat (FL.rw 109 [true,false,false,false] x)):Td)) h5)|(exact congrArg (Value.int .i64) h2))⟩
set_option maxRecDepth 100000 in
theorem ein_n0 (L:List (List UInt8)) (X Y:List Rw) (s s2:RS) (j j2:Int) (k:Nat) (f:Nat→Value) (h0:decide (j<(5:Int))=true) (h1:((gNm s).toList==(ByteArray.mk #[]).toList)=true) (h2:IntKind.i64.wrap (j+1)=j2) (h3:gE s=s2) (h4:X=Y):∃ qs,alN Id' 4 [(19,.c (.one (.v (.int .i64 j2)))),(4,.c (.one (.obj 4)))] [⟨.us (.ext (.shr 1 L.length (tbE L))),false⟩,⟨.dead,true⟩,⟨.dead,true⟩,⟨.us (.rd s2),true⟩,⟨.us (.ext (.flat (.rw 109 [true,false,false,false] Y))),true⟩] ((symC (⟨Try.prog,[(125,ctrF Id' C_dget hardD)],[],dkHo,Id'.one,60⟩:Sy Td) [] 46 (hdC (loopsC (bodyOf Try.f61)) 1) ⟨[(19,.c (.one (.v (.int .i64 j)))),(4,.c (.one (.obj 4)))]++anyB' (writesC (hdC (loopsC (bodyOf Try.f61)) 1)) ([(7,.c (.one (.obj 3)))]++tabV f 46),[⟨.us (.ext (.shr 1 L.length (tbE L))),false⟩,⟨.dead,true⟩,⟨.dead,true⟩,⟨.us (.rd s),true⟩,⟨.us (.ext (.flat (.rw 109 [true,false,false,false] X))),true⟩],0⟩).al [true,false])=some qs∧∀ q∈qs,q:=
 ⟨[decide (j<(5:Int))=true,(!(gNm s).toList==(ByteArray.mk #[]).toList)=false,Th.ext (Dk.shr 1 L.length (tbE L))=Th.ext (Dk.shr 1 L.length (tbE L)),(Th.rd (gE s):Td)=Th.rd s2,Th.ext (Dk.flat (FL.rw 109 [true,false,false,false] X))=Th.ext (Dk.flat (FL.rw 109 [true,false,false,false] Y)),Value.int IntKind.i64 (IntKind.i64.wrap (j+(1:Int)))=Value.int IntKind.i64 j2],by kernel_rfl,(by refine mcons ?_ (mcons ?_ (mcons ?_ (mcons ?_ (mcons ?_ (mcons ?_ mnil)))))<;>first|rfl|exact h0|exact h1|exact h2|exact h3|exact h4|trivial|(exact congrArg (! ·) h1)|(exact congrArg Th.rd h3)|(exact congrArg (fun x=>(Th.ext (Dk.flat (FL.rw 109 [true,false,false,false] x)):Td)) h4)|(exact congrArg (Value.int .i64) h2))⟩
set_option maxRecDepth 100000 in
theorem ein_x (L:List (List UInt8)) (X:List Rw) (s:RS) (j:Int) (k:Nat) (f:Nat→Value) (h0:decide (j<(5:Int))=false):∃ qs,alX Id' 4 2 [(4,.c (.one (.obj 4)))] [⟨.us (.ext (.shr 1 L.length (tbE L))),false⟩,⟨.dead,true⟩,⟨.dead,true⟩,⟨.us (.rd s),true⟩,⟨.us (.ext (.flat (.rw 109 [true,false,false,false] X))),true⟩] ((symC (⟨Try.prog,[(125,ctrF Id' C_dget hardD)],[],dkHo,Id'.one,60⟩:Sy Td) [] 46 (hdC (loopsC (bodyOf Try.f61)) 1) ⟨[(19,.c (.one (.v (.int .i64 j)))),(4,.c (.one (.obj 4)))]++anyB' (writesC (hdC (loopsC (bodyOf Try.f61)) 1)) ([(7,.c (.one (.obj 3)))]++tabV f 46),[⟨.us (.ext (.shr 1 L.length (tbE L))),false⟩,⟨.dead,true⟩,⟨.dead,true⟩,⟨.us (.rd s),true⟩,⟨.us (.ext (.flat (.rw 109 [true,false,false,false] X))),true⟩],0⟩).al [false])=some qs∧∀ q∈qs,q:=
 ⟨[decide (j<(5:Int))=false,Th.ext (Dk.shr 1 L.length (tbE L))=Th.ext (Dk.shr 1 L.length (tbE L)),(Th.rd s:Td)=Th.rd s,Th.ext (Dk.flat (FL.rw 109 [true,false,false,false] X))=Th.ext (Dk.flat (FL.rw 109 [true,false,false,false] X))],by kernel_rfl,(by refine mcons ?_ (mcons ?_ (mcons ?_ (mcons ?_ mnil)))<;>first|rfl|exact h0|trivial)⟩
theorem stE_len (X:List Rw) (s:RS):∀ k,(stE X s k).1.length≤X.length+k
 |0=>Nat.le_refl _
 |k+1=>by
  have:=stE_len X s k
  unfold stE
  cases h:((gNm (stE X s k).2).toList==(⟨#[]⟩:ByteArray).toList) with
  |true=>show (stE X s k).1.length≤_;omega
  |false=>show ((stE X s k).1++[_]).length≤_;rw [List.length_append,List.length_singleton];omega
theorem stO_len (L:List (List UInt8)):∀ k,(stO L k).length≤5 * k
 |0=>Nat.le_refl _
 |k+1=>by
  have h1:=stO_len L k
  have h2:=stE_len (stO L k) (RS.new (L.getD k [])) 5
  show (stE _ _ 5).1.length≤_
  omega
set_option maxRecDepth 100000 in
theorem ein_lp (L:List (List UInt8)) (X:List Rw) (s:RS) (hX:X.length≤10000) {W0:World} {G:Nat→Prop} (S0:Sy Td) (hS0:S0.P=Try.prog):LoopSound S0 Id' W0 G 46 (hdC (loopsC (bodyOf Try.f61)) 1) (lpG Id' 46 (hdC (loopsC (bodyOf Try.f61)) 1) 4 [(19,.c (.one (.v (.int .i64 ((0:Nat):Int))))),(4,.c (.one (.obj 4)))] [(7,.c (.one (.obj 3)))] [⟨.us (.ext (.shr 1 L.length (tbE L))),false⟩,⟨.dead,true⟩,⟨.dead,true⟩,⟨.us (.rd (stE X s 0).2),true⟩,⟨.us (.ext (.flat (.rw 109 [true,false,false,false] (stE X s 0).1))),true⟩] (.leaf (.exit 2) [(4,.c (.one (.obj 4)))] [⟨.us (.ext (.shr 1 L.length (tbE L))),false⟩,⟨.dead,true⟩,⟨.dead,true⟩,⟨.us (.rd (stE X s 5).2),true⟩,⟨.us (.ext (.flat (.rw 109 [true,false,false,false] (stE X s 5).1))),true⟩])):=by
 refine lp_sound (V:=fun k=>[(19,.c (.one (.v (.int .i64 (k:Int))))),(4,.c (.one (.obj 4)))]) (M:=(fun k=>[⟨.us (.ext (.shr 1 L.length (tbE L))),false⟩,⟨.dead,true⟩,⟨.dead,true⟩,⟨.us (.rd (stE X s k).2),true⟩,⟨.us (.ext (.flat (.rw 109 [true,false,false,false] (stE X s k).1))),true⟩]:Nat→Mem Td)) (N:=5) (Ux:=fun k x=>match x with|.exit 2=>some ([(4,.c (.one (.obj 4)))],([⟨.us (.ext (.shr 1 L.length (tbE L))),false⟩,⟨.dead,true⟩,⟨.dead,true⟩,⟨.us (.rd (stE X s 5).2),true⟩,⟨.us (.ext (.flat (.rw 109 [true,false,false,false] (stE X s 5).1))),true⟩]:Mem Td))|_=>none) (X:=fun _ _=>True) (J:=fun k=>k≤5) (fun k=>by kernel_rfl) (Nat.zero_le _) (fun k hk hJ f=>?_) (fun K hK k x U hk hU hX=>?_)
 ·rw [hS0]
  cases hT:decide ((k:Int)<(5:Int)) with
  |false=>
   have hke:k=5:=by have:=of_decide_eq_false hT;omega
   subst hke
   exact rnd_xD (⟨Try.prog,[(125,ctrF Id' C_dget hardD)],[],dkHo,Id'.one,60⟩:Sy Td) rfl ((fun (W0:World) (G:Nat→Prop)=>SyOk.mk2 Try.mixed dkHo_ok (FnsR.cons (R_dget) (FnsR.nil)) EqsOk.nil) W0 G) (ein_x L _ _ _ 5 f hT) rfl trivial
  |true=>
   have hk1:=of_decide_eq_true hT
   have hW:IntKind.i64.wrap ((k:Int)+1)=((k+1:Nat):Int):=by rw [IntWalk.i64_in _ (by omega)];omega
   have hl:=stE_len X s k
   cases hq:((gNm (stE X s k).2).toList==(ByteArray.mk #[]).toList) with
   |true=>
    have hq2:((gNm (stE X s k).2).toList==(⟨#[]⟩:ByteArray).toList)=true:=hq
    exact rnd_nD (⟨Try.prog,[(125,ctrF Id' C_dget hardD)],[],dkHo,Id'.one,60⟩:Sy Td) rfl ((fun (W0:World) (G:Nat→Prop)=>SyOk.mk2 Try.mixed dkHo_ok (FnsR.cons (R_dget) (FnsR.nil)) EqsOk.nil) W0 G) (ein_n0 L (stE X s k).1 (stE X s (k+1)).1 (stE X s k).2 (stE X s (k+1)).2 _ _ k f hT hq hW rfl (by simp only [stE,hq2,cond_true])) rfl rfl (by omega) (by omega)
   |false=>
    have hq2:((gNm (stE X s k).2).toList==(⟨#[]⟩:ByteArray).toList)=false:=hq
    exact rnd_nD (⟨Try.prog,[(125,ctrF Id' C_dget hardD)],[],dkHo,Id'.one,60⟩:Sy Td) rfl ((fun (W0:World) (G:Nat→Prop)=>SyOk.mk2 Try.mixed dkHo_ok (FnsR.cons (R_dget) (FnsR.nil)) EqsOk.nil) W0 G) (ein_n1 L (stE X s k).1 (stE X s (k+1)).1 (stE X s k).2 (stE X s (k+1)).2 _ _ k f hT hq hW (by omega) rfl (by simp only [stE,hq2,cond_false])) rfl rfl (by omega) (by omega)
 ·revert hU
  match x with
  |.normal=>intro hU;cases hU
  |.ret=>intro hU;cases hU
  |.exit n=>
   intro hU
   by_cases h:n=2
   ·subst h;simp only [Option.some.injEq] at hU;subst hU;exact hK
   ·exfalso;split at hU
    ·rename_i he;cases he;exact h rfl
    ·cases hU
end Go.Proofs.Ytdenmoiaiemokaa
set_option linter.unusedVariables false
set_option linter.unusedSimpArgs false
namespace Go.Proofs.Ytdenmoiaiemokaa
open Go.RowKit
set_option maxRecDepth 100000 in
theorem eou_n (L:List (List UInt8)) (X Y:List Rw) (i i2:Int) (k:Nat) (f:Nat→Value) (h0:decide (i<(L.length:Int))=true) (h1:IntKind.i64.wrap (i+1)=i2) (h2:(0:Int)≤i∧i.toNat<L.length) (h3:(L.getD i.toNat []).length≤(140737488355328:Nat)) (h4:(stE X (RS.new (L.getD i.toNat [])) 5).1=Y):∃ qs,alN Id' 1 [(13,.c (.one (.v (.int .i64 i2)))),(4,.c (.one (.obj 1)))] [⟨.us (.ext (.shr 1 L.length (tbE L))),false⟩,⟨.us (.ext (.flat (.rw 109 [true,false,false,false] Y))),true⟩] ((symC (⟨Try.prog,[F_openW (ξ:=Dk) (hx:=hardDk)],[],dkHo,Id'.one,60⟩:Sy Td) [(7,(lpG Id' 46 (hdC (loopsC (bodyOf Try.f61)) 1) 4 [(19,.c (.one (.v (.int .i64 ((0:Nat):Int))))),(4,.c (.one (.obj 4)))] [(7,.c (.one (.obj 3)))] [⟨.us (.ext (.shr 1 L.length (tbE L))),false⟩,⟨.dead,true⟩,⟨.dead,true⟩,⟨.us (.rd (stE X (RS.new (L.getD i.toNat [])) 0).2),true⟩,⟨.us (.ext (.flat (.rw 109 [true,false,false,false] (stE X (RS.new (L.getD i.toNat [])) 0).1))),true⟩] (.leaf (.exit 2) [(4,.c (.one (.obj 4)))] [⟨.us (.ext (.shr 1 L.length (tbE L))),false⟩,⟨.dead,true⟩,⟨.dead,true⟩,⟨.us (.rd (stE X (RS.new (L.getD i.toNat [])) 5).2),true⟩,⟨.us (.ext (.flat (.rw 109 [true,false,false,false] (stE X (RS.new (L.getD i.toNat [])) 5).1))),true⟩])))] 46 (hdC (loopsC (bodyOf Try.f61)) 0) ⟨[(13,.c (.one (.v (.int .i64 i)))),(4,.c (.one (.obj 1)))]++anyB' (writesC (hdC (loopsC (bodyOf Try.f61)) 0)) ([(0,.c (.one (.obj 0))),(11,.c (.one (.obj 0))),(12,.c (.one (.v (.int .i64 (L.length:Int)))))]++tabV f 46),[⟨.us (.ext (.shr 1 L.length (tbE L))),false⟩,⟨.us (.ext (.flat (.rw 109 [true,false,false,false] X))),true⟩],0⟩).al [true])=some qs∧∀ q∈qs,q:=
 ⟨[decide (i<(↑L.length:Int))=true,(0:Int)≤i∧i.toNat<L.length,(L.getD i.toNat []).length≤(140737488355328:Nat),Th.ext (Dk.shr 1 L.length (tbE L))=Th.ext (Dk.shr 1 L.length (tbE L)),(Th.rd (RS.new (L.getD i.toNat [])):Td)=Th.rd (RS.new (L.getD i.toNat [])),Th.ext (Dk.flat (FL.rw 109 [true,false,false,false] X))=Th.ext (Dk.flat (FL.rw 109 [true,false,false,false] X)),Value.int IntKind.i64 (Int.ofNat 0)=Value.int IntKind.i64 (Int.ofNat (0:Nat)),Th.ext (Dk.shr 1 L.length (tbE L))=Th.ext (Dk.shr 1 L.length (tbE L)),Th.ext (Dk.flat (FL.rw 109 [true,false,false,false] (stE X (RS.new (L.getD i.toNat [])) (5:Nat)).fst))=Th.ext (Dk.flat (FL.rw 109 [true,false,false,false] Y)),Value.int IntKind.i64 (IntKind.i64.wrap (i+(1:Int)))=Value.int IntKind.i64 i2],by kernel_rfl,(by refine mcons ?_ (mcons ?_ (mcons ?_ (mcons ?_ (mcons ?_ (mcons ?_ (mcons ?_ (mcons ?_ (mcons ?_ (mcons ?_ mnil)))))))))<;>first|rfl|exact h0|exact h1|exact h2|exact h3|exact h4|trivial|(exact congrArg (fun x=>(Th.ext (Dk.flat (FL.rw 109 [true,false,false,false] x)):Td)) h4)|(exact congrArg (Value.int .i64) h1))⟩
set_option maxRecDepth 100000 in
theorem eou_x (L:List (List UInt8)) (X Y:List Rw) (i i2:Int) (k:Nat) (f:Nat→Value) (h0:decide (i<(L.length:Int))=false) (h1:X=Y):∃ qs,alX Id' 1 0 [(4,.c (.one (.obj 1)))] [⟨.us (.ext (.shr 1 L.length (tbE L))),false⟩,⟨.us (.ext (.flat (.rw 109 [true,false,false,false] Y))),true⟩] ((symC (⟨Try.prog,[F_openW (ξ:=Dk) (hx:=hardDk)],[],dkHo,Id'.one,60⟩:Sy Td) [(7,(lpG Id' 46 (hdC (loopsC (bodyOf Try.f61)) 1) 4 [(19,.c (.one (.v (.int .i64 ((0:Nat):Int))))),(4,.c (.one (.obj 4)))] [(7,.c (.one (.obj 3)))] [⟨.us (.ext (.shr 1 L.length (tbE L))),false⟩,⟨.dead,true⟩,⟨.dead,true⟩,⟨.us (.rd (stE X (RS.new (L.getD i.toNat [])) 0).2),true⟩,⟨.us (.ext (.flat (.rw 109 [true,false,false,false] (stE X (RS.new (L.getD i.toNat [])) 0).1))),true⟩] (.leaf (.exit 2) [(4,.c (.one (.obj 4)))] [⟨.us (.ext (.shr 1 L.length (tbE L))),false⟩,⟨.dead,true⟩,⟨.dead,true⟩,⟨.us (.rd (stE X (RS.new (L.getD i.toNat [])) 5).2),true⟩,⟨.us (.ext (.flat (.rw 109 [true,false,false,false] (stE X (RS.new (L.getD i.toNat [])) 5).1))),true⟩])))] 46 (hdC (loopsC (bodyOf Try.f61)) 0) ⟨[(13,.c (.one (.v (.int .i64 i)))),(4,.c (.one (.obj 1)))]++anyB' (writesC (hdC (loopsC (bodyOf Try.f61)) 0)) ([(0,.c (.one (.obj 0))),(11,.c (.one (.obj 0))),(12,.c (.one (.v (.int .i64 (L.length:Int)))))]++tabV f 46),[⟨.us (.ext (.shr 1 L.length (tbE L))),false⟩,⟨.us (.ext (.flat (.rw 109 [true,false,false,false] X))),true⟩],0⟩).al [false])=some qs∧∀ q∈qs,q:=
 ⟨[decide (i<(↑L.length:Int))=false,Th.ext (Dk.shr 1 L.length (tbE L))=Th.ext (Dk.shr 1 L.length (tbE L)),Th.ext (Dk.flat (FL.rw 109 [true,false,false,false] X))=Th.ext (Dk.flat (FL.rw 109 [true,false,false,false] Y))],by kernel_rfl,(by refine mcons ?_ (mcons ?_ (mcons ?_ mnil))<;>first|rfl|exact h0|exact h1|trivial|(exact congrArg (fun x=>(Th.ext (Dk.flat (FL.rw 109 [true,false,false,false] x)):Td)) h1))⟩
set_option maxRecDepth 100000 in
theorem eou_lp (L:List (List UInt8)) (hL:L.length≤1000) (hw:∀ l∈L,l.length≤140737488355328) {W0:World} {G:Nat→Prop} (S0:Sy Td) (hS0:S0.P=Try.prog):LoopSound S0 Id' W0 G 46 (hdC (loopsC (bodyOf Try.f61)) 0) (lpG Id' 46 (hdC (loopsC (bodyOf Try.f61)) 0) 1 [(13,.c (.one (.v (.int .i64 ((0:Nat):Int))))),(4,.c (.one (.obj 1)))] [(0,.c (.one (.obj 0))),(11,.c (.one (.obj 0))),(12,.c (.one (.v (.int .i64 (L.length:Int)))))] [⟨.us (.ext (.shr 1 L.length (tbE L))),false⟩,⟨.us (.ext (.flat (.rw 109 [true,false,false,false] (stO L 0)))),true⟩] (.leaf (.exit 0) [(4,.c (.one (.obj 1)))] [⟨.us (.ext (.shr 1 L.length (tbE L))),false⟩,⟨.us (.ext (.flat (.rw 109 [true,false,false,false] (stO L L.length)))),true⟩])):=by
 refine lp_sound (V:=fun k=>[(13,.c (.one (.v (.int .i64 (k:Int))))),(4,.c (.one (.obj 1)))]) (M:=(fun k=>[⟨.us (.ext (.shr 1 L.length (tbE L))),false⟩,⟨.us (.ext (.flat (.rw 109 [true,false,false,false] (stO L k)))),true⟩]:Nat→Mem Td)) (N:=L.length) (Ux:=fun k x=>match x with|.exit 0=>some ([(4,.c (.one (.obj 1)))],([⟨.us (.ext (.shr 1 L.length (tbE L))),false⟩,⟨.us (.ext (.flat (.rw 109 [true,false,false,false] (stO L L.length)))),true⟩]:Mem Td))|_=>none) (X:=fun _ _=>True) (J:=fun k=>k≤L.length) (fun k=>by kernel_rfl) (Nat.zero_le _) (fun k hk hJ f=>?_) (fun K hK k x U hk hU hX=>?_)
 ·rw [hS0]
  have hl:=stO_len L k
  cases hT:decide ((k:Int)<(L.length:Int)) with
  |false=>
   have hke:k=L.length:=by have:=of_decide_eq_false hT;omega
   obtain ⟨ps,h1,h2⟩:=eou_x L (stO L k) (stO L L.length) (k:Int) 0 k f hT (by rw [hke])
   exact rnd_x (⟨Try.prog,[F_openW (ξ:=Dk) (hx:=hardDk)],[],dkHo,Id'.one,60⟩:Sy Td) [(7,(lpG Id' 46 (hdC (loopsC (bodyOf Try.f61)) 1) 4 [(19,.c (.one (.v (.int .i64 ((0:Nat):Int))))),(4,.c (.one (.obj 4)))] [(7,.c (.one (.obj 3)))] [⟨.us (.ext (.shr 1 L.length (tbE L))),false⟩,⟨.dead,true⟩,⟨.dead,true⟩,⟨.us (.rd (stE (stO L k) (RS.new (L.getD ((k:Int)).toNat [])) 0).2),true⟩,⟨.us (.ext (.flat (.rw 109 [true,false,false,false] (stE (stO L k) (RS.new (L.getD ((k:Int)).toNat [])) 0).1))),true⟩] (.leaf (.exit 2) [(4,.c (.one (.obj 4)))] [⟨.us (.ext (.shr 1 L.length (tbE L))),false⟩,⟨.dead,true⟩,⟨.dead,true⟩,⟨.us (.rd (stE (stO L k) (RS.new (L.getD ((k:Int)).toNat [])) 5).2),true⟩,⟨.us (.ext (.flat (.rw 109 [true,false,false,false] (stE (stO L k) (RS.new (L.getD ((k:Int)).toNat [])) 5).1))),true⟩])))] rfl ((fun (W0:World) (G:Nat→Prop)=>SyOk.mk2 Try.mixed dkHo_ok (FnsR.cons (F_openW_ok (J:=dkI) (hx:=hardDk)) (FnsR.nil)) EqsOk.nil) W0 G) (LpsOk.cons (by kernel_rfl) (ein_lp L (stO L k) (RS.new (L.getD ((k:Int)).toNat [])) (by omega) _ rfl) (LpsOk.nil _)) (m2:=_) (fun w e h=>h) [false] 0 ps h1 h2 rfl trivial
  |true=>
   have hk1:=of_decide_eq_true hT
   have hW:IntKind.i64.wrap ((k:Int)+1)=((k+1:Nat):Int):=by rw [IntWalk.i64_in _ (by omega)];omega
   have hm:(L.getD ((k:Int)).toNat []).length≤140737488355328:=by
    rw [Int.toNat_natCast,List.getD_eq_getElem?_getD,List.getElem?_eq_getElem (show k<L.length by omega)]
    exact hw _ (List.getElem_mem _)
   obtain ⟨ps,h1,h2⟩:=eou_n L (stO L k) (stO L (k+1)) (k:Int) ((k+1:Nat):Int) k f hT hW ⟨by omega,by omega⟩ hm (by rw [Int.toNat_natCast];rfl)
   exact rnd_n (⟨Try.prog,[F_openW (ξ:=Dk) (hx:=hardDk)],[],dkHo,Id'.one,60⟩:Sy Td) [(7,(lpG Id' 46 (hdC (loopsC (bodyOf Try.f61)) 1) 4 [(19,.c (.one (.v (.int .i64 ((0:Nat):Int))))),(4,.c (.one (.obj 4)))] [(7,.c (.one (.obj 3)))] [⟨.us (.ext (.shr 1 L.length (tbE L))),false⟩,⟨.dead,true⟩,⟨.dead,true⟩,⟨.us (.rd (stE (stO L k) (RS.new (L.getD ((k:Int)).toNat [])) 0).2),true⟩,⟨.us (.ext (.flat (.rw 109 [true,false,false,false] (stE (stO L k) (RS.new (L.getD ((k:Int)).toNat [])) 0).1))),true⟩] (.leaf (.exit 2) [(4,.c (.one (.obj 4)))] [⟨.us (.ext (.shr 1 L.length (tbE L))),false⟩,⟨.dead,true⟩,⟨.dead,true⟩,⟨.us (.rd (stE (stO L k) (RS.new (L.getD ((k:Int)).toNat [])) 5).2),true⟩,⟨.us (.ext (.flat (.rw 109 [true,false,false,false] (stE (stO L k) (RS.new (L.getD ((k:Int)).toNat [])) 5).1))),true⟩])))] rfl ((fun (W0:World) (G:Nat→Prop)=>SyOk.mk2 Try.mixed dkHo_ok (FnsR.cons (F_openW_ok (J:=dkI) (hx:=hardDk)) (FnsR.nil)) EqsOk.nil) W0 G) (LpsOk.cons (by kernel_rfl) (ein_lp L (stO L k) (RS.new (L.getD ((k:Int)).toNat [])) (by omega) _ rfl) (LpsOk.nil _)) (m2:=_) (fun w e h=>h) [true] ps h1 h2 rfl rfl (by omega) (by omega)
 ·revert hU
  match x with
  |.exit 0=>intro hU;simp only [Option.some.injEq] at hU;subst hU;exact hK
  |.normal=>intro hU;cases hU
  |.ret=>intro hU;cases hU
  |.exit (n+1)=>intro hU;cases hU
end Go.Proofs.Ytdenmoiaiemokaa
set_option linter.unusedVariables false
set_option linter.unusedSimpArgs false
namespace Go.Proofs.Ytdenmoiaiemokaa
open Go.RowKit
section
variable {W0:World} {G:Nat→Prop} {sz:Nat} {w:World} {e:Env} {mem:Mem Td}
def regO (id:Nat):Code→List Oper
 |.region i ops _=>match eqb i id with|true=>ops.toList|false=>[]
 |.seq x y=>regO id x++regO id y
 |.cond _ x y=>regO id x++regO id y
 |.block _ c=>regO id c
 |.loop c=>regO id c
 |_=>[]
def drwR (id:Nat):Code→Bool
 |.region i _ d=>match eqb i id with|true=>d|false=>false
 |.seq x y=>drwR id x||drwR id y
 |.cond _ x y=>drwR id x||drwR id y
 |.block _ c=>drwR id c
 |.loop c=>drwR id c
 |_=>false
def mapG (f:Mem Td→Mem Td) (S:Sy Td) (sz:Nat) (l:List Oper) (d:Bool):SSt Td→Option (Tr Td):=fun s=>forceN (s.ver+1) fun v=>some (regionB S sz l d ⟨s.base,f s.mem,v⟩)
theorem mapG_sound {Sq:Sy Td} (hS:SyOk Sq Id' W0 G) {S:Sy Td} (hP:S.P=Sq.P) {id:Nat} {l:List Oper} {d:Bool} {f:Mem Td→Mem Td} (hf:∀ w e mem,MemOk W0 G Id' w e mem→MemOk W0 G Id' w e (f mem)):FragSound S Id' W0 G sz (.region id l.toArray d) (mapG f Sq sz l d):=by
 intro s t hg
 unfold mapG at hg
 rw [forceN_eq] at hg
 simp only [Option.some.injEq] at hg
 subst hg
 refine ⟨Tr.all_mono (fun s' h=>?_) (regionB_after (S:=Sq) (sz:=sz) (l:=l) (d:=d) (s:=⟨s.base,f s.mem,s.ver+1⟩)),fun K hK Q a w e hfr hM hend=>?_⟩
 ·obtain ⟨⟨pre,h1,h2⟩,h3,_⟩:=h
  refine ⟨⟨pre,h1,fun p hp=>by simpa [writesC] using h2 p hp⟩,Nat.le_of_succ_le h3,fun hv=>absurd (hv▸h3) (Nat.not_succ_le_self _)⟩
 ·rw [hP]
  exact regionB_sound hS (s:=⟨s.base,f s.mem,s.ver+1⟩) hK hfr (hf w e s.mem hM) fun s' e' a' w' hg hk hf' hM'=>hend .normal s' e' a' w' hg hk hf' hM'
def modAt (g:En Td→En Td):Nat→Mem Td→Mem Td
 |_,[]=>[]
 |0,en::r=>g en::r
 |i+1,en::r=>en::modAt g i r
theorem modAt_len (g:En Td→En Td):∀ (i:Nat) (m:Mem Td),(modAt g i m).length=m.length
 |_,[]=>by simp [modAt]
 |0,en::r=>rfl
 |i+1,en::r=>by simp [modAt,modAt_len g i r]
theorem modAt_get (g:En Td→En Td):∀ (i:Nat) (m:Mem Td) (j:Nat) (n:En Td),(modAt g i m)[j]? =some n→∃ n0,m[j]? =some n0∧(n=n0∨n=g n0)
 |_,[],j,n,h=>by simp [modAt] at h
 |0,en::r,0,n,h=>by simp [modAt] at h;exact ⟨en,rfl,.inr h.symm⟩
 |0,en::r,j+1,n,h=>by simp [modAt] at h;exact ⟨n,by simpa using h,.inl rfl⟩
 |i+1,en::r,0,n,h=>by simp [modAt] at h;exact ⟨en,rfl,.inl h.symm⟩
 |i+1,en::r,j+1,n,h=>by
  simp only [modAt,List.getElem?_cons_succ] at h ⊢
  exact modAt_get g i r j n h
theorem wk_ok (i:Nat) (w:World) (e:Env) (mem:Mem Td) (hM:MemOk W0 G Id' w e mem):MemOk W0 G Id' w e (modAt wkE i mem):=by
 have key:∀ (j:Nat) (n':En Td),(modAt wkE i mem)[j]? =some n'→∃ n,mem[j]? =some n∧(∀ u,Holds Id' e w u n.mu n.ob→Holds Id' e w u n'.mu n'.ob)∧(∀ u k,Foot Id' w u n'.ob k→Foot Id' w u n.ob k)∧(n'.mu=true→n'=n):=fun j n' hn=>by
  obtain ⟨n,h1,h2⟩:=modAt_get _ _ _ _ _ hn
  refine ⟨n,h1,?_⟩
  rcases h2 with rfl|rfl
  ·exact ⟨fun u h=>h,fun u k h=>h,fun _=>rfl⟩
  ·refine ⟨fun u hh=>?_,fun u k hk=>wkE_foot hk,fun h=>(wkE_mu h).1⟩
   rcases wkE_cases n with ⟨he,_⟩|⟨_,o,ho,he⟩
   ·rw [he];exact hh
   ·rw [he];exact wkO_holds ho hh
 refine ⟨by rw [modAt_len];exact hM.len,fun j u n hu hn=>?_,fun j u n hu hn k hk=>?_,fun j u n hu hn hmu k hk=>?_,fun i' j u v n m hu hn hmu hv hm hij k hk1 hk2=>?_,hM.mod,fun j u n hu hn k hk=>?_⟩
 ·obtain ⟨n0,h1,h2,_⟩:=key j n hn
  exact h2 u (hM.holds j u n0 hu h1)
 ·obtain ⟨n0,h1,_,h3,_⟩:=key j n hn
  exact hM.lt j u n0 hu h1 k (h3 u k hk)
 ·obtain ⟨n0,h1,_,_,h4⟩:=key j n hn
  obtain rfl:=h4 hmu
  exact hM.own j u n hu h1 hmu k hk
 ·obtain ⟨n0,h1,_,_,h4⟩:=key i' n hn
  obtain ⟨m0,g1,_,g3,_⟩:=key j m hm
  obtain rfl:=h4 hmu
  exact hM.sep i' j u v n m0 hu h1 hmu hv g1 hij k hk1 (g3 v k hk2)
 ·obtain ⟨n0,h1,_,h3,_⟩:=key j n hn
  exact hM.rd j u n0 hu h1 k (h3 u k hk)
end
end Go.Proofs.Ytdenmoiaiemokaa
set_option linter.unusedVariables false
set_option linter.unusedSimpArgs false
namespace Go.Proofs.Ytdenmoiaiemokaa
open Go.RowKit
section
variable {W0:World} {G:Nat→Prop} {w:World} {e:Env} {mem:Mem Td}
def fzE (en:En Td):En Td:=match en.ob with
 |.blk cs=>⟨.blk cs,false⟩
 |_=>en
theorem fz_ok (i:Nat) (w:World) (e:Env) (mem:Mem Td) (hM:MemOk W0 G Id' w e mem):MemOk W0 G Id' w e (modAt fzE i mem):=by
 have key:∀ (j:Nat) (n':En Td),(modAt fzE i mem)[j]? =some n'→∃ n,mem[j]? =some n∧(∀ u,Holds Id' e w u n.mu n.ob→Holds Id' e w u n'.mu n'.ob)∧(∀ u k,Foot Id' w u n'.ob k→Foot Id' w u n.ob k)∧(n'.mu=true→n'=n):=fun j n' hn=>by
  obtain ⟨n,h1,h2⟩:=modAt_get _ _ _ _ _ hn
  refine ⟨n,h1,?_⟩
  rcases h2 with rfl|rfl
  ·exact ⟨fun u h=>h,fun u k h=>h,fun _=>rfl⟩
  ·unfold fzE
   split
   ·rename_i cs hb
    rw [hb]
    exact ⟨fun u ⟨b,o,h1,h2⟩=>⟨b,o,h1,fun j p hp=>by obtain ⟨x,g1,g2,_⟩:=h2 j p hp;exact ⟨x,g1,g2,fun h=>by cases h⟩⟩,fun u k h=>h,fun h=>by cases h⟩
   ·exact ⟨fun u h=>h,fun u k h=>h,fun _=>rfl⟩
 refine ⟨by rw [modAt_len];exact hM.len,fun j u n hu hn=>?_,fun j u n hu hn k hk=>?_,fun j u n hu hn hmu k hk=>?_,fun i' j u v n m hu hn hmu hv hm hij k hk1 hk2=>?_,hM.mod,fun j u n hu hn k hk=>?_⟩
 ·obtain ⟨n0,h1,h2,_⟩:=key j n hn
  exact h2 u (hM.holds j u n0 hu h1)
 ·obtain ⟨n0,h1,_,h3,_⟩:=key j n hn
  exact hM.lt j u n0 hu h1 k (h3 u k hk)
 ·obtain ⟨n0,h1,_,_,h4⟩:=key j n hn
  obtain rfl:=h4 hmu
  exact hM.own j u n hu h1 hmu k hk
 ·obtain ⟨n0,h1,_,_,h4⟩:=key i' n hn
  obtain ⟨m0,g1,_,g3,_⟩:=key j m hm
  obtain rfl:=h4 hmu
  exact hM.sep i' j u v n m0 hu h1 hmu hv g1 hij k hk1 (g3 v k hk2)
 ·obtain ⟨n0,h1,_,h3,_⟩:=key j n hn
  exact hM.rd j u n0 hu h1 k (h3 u k hk)
end
end Go.Proofs.Ytdenmoiaiemokaa
set_option linter.unusedVariables false
set_option linter.unusedSimpArgs false
namespace Go.Proofs.Ytdenmoiaiemokaa
open Go.RowKit
def nmI (R:List Rw) (s:ByteArray) (i:Int):Bool:=!(((R.getD i.toNat Rw.zero).ss.getD 0 ⟨#[]⟩).toList==s.toList)
set_option maxRecDepth 100000 in
theorem dcl_w0 (nm:ByteArray) (a b c:Int) (s:ByteArray) :∃ qs,wayO Id' ([⟨.blk [.v (.string s)],false⟩]:Mem Td).length [⟨.blk [.v (.string s)],false⟩] (svV (.bool (nm.toList==s.toList))) ((runFn (⟨Try.prog,[],[],dkHo,Id'.one,60⟩:Sy Td) [] Try.f135 [.agg [.v (.string nm),.v (.int .i64 a),.v (.int .i64 b),.v (.int .i64 c)],.one (.ptr 0 0)] [⟨.blk [.v (.string s)],false⟩]).al [])=some qs∧∀ q∈qs,q:=
 ⟨[Value.string s=Value.string s,Value.bool (nm.toList==s.toList)=Value.bool (nm.toList==s.toList)],by kernel_rfl,(by refine mcons ?_ (mcons ?_ mnil)<;>first|rfl|trivial)⟩
def C_dcl:Ctr Td:=fun us sub=>match us,sub with
 |[.agg [.v (.string nm),.v (.int .i64 a),.v (.int .i64 b),.v (.int .i64 c)],.one (.ptr 0 0)],[⟨.blk [.v (.string s)],false⟩]=>some ([],svV (.bool (nm.toList==s.toList)),[⟨.blk [.v (.string s)],false⟩])
 |_,_=>none
set_option maxRecDepth 100000 in
theorem C_dcl_ok:CtrOk Try.prog Id' 135 C_dcl:=by
 intro us sub ps x sm h hp w e vs hM ha
 unfold C_dcl at h
 split at h
 ·rename_i nm a b c s
  simp only [Option.some.injEq,Prod.mk.injEq] at h
  obtain ⟨rfl,rfl,rfl⟩:=h
  exact ctr_way (I:=Id') (fun (W0:World) (G:Nat→Prop)=>SyOk.mk2 Try.mixed dkHo_ok (FnsR.nil) EqsOk.nil) rfl Try.func135 (by kernel_rfl) (fun W0 G=>LpsOk.nil _) (cs:=[]) (by kernel_rfl) (dcl_w0 nm a b c s ) w e vs hM ha
 ·cases h
theorem R_dcl:RowOk Try.prog Id' hardD 135 (ctrF Id' C_dcl hardD):=ctrF_ok Try.call135 C_dcl_ok
end Go.Proofs.Ytdenmoiaiemokaa
set_option linter.unusedVariables false
set_option linter.unusedSimpArgs false
namespace Go.Proofs.Ytdenmoiaiemokaa
open Go.RowKit
theorem nm_no {R:List Rw} {s:ByteArray} {i:Int} (h:nmI R s i=true):(((R.getD i.toNat Rw.zero).ss.getD 0 ⟨#[]⟩).toList==s.toList)=false:=by simpa [nmI] using h
theorem nm_yes {R:List Rw} {s:ByteArray} {i:Int} (h:nmI R s i=false):(((R.getD i.toNat Rw.zero).ss.getD 0 ⟨#[]⟩).toList==s.toList)=true:=by
 unfold nmI at h
 revert h
 cases (((R.getD i.toNat Rw.zero).ss.getD 0 ⟨#[]⟩).toList==s.toList)<;>intro h<;>first|rfl|cases h
set_option maxRecDepth 100000 in
theorem ixd_n (R:List Rw) (s:ByteArray) (i i2:Int) (k:Nat) (f:Nat→Value) (h0:decide (i<(R.length:Int))=true) (h1:IntKind.i64.wrap (i+1)=i2) (h2:0≤i∧i.toNat<R.length) (h3:nmI R s (i)=true):∃ qs,alN Id' 2 [(8,.c (.one (.v (.int .i64 i2))))] [⟨.us (.ext (.vw [true,false,false,false] R)),false⟩,⟨.blk [.v (.string s)],false⟩] ((symC (⟨Try.prog,[(135,ctrF Id' C_dcl hardD)],[],dkHo,Id'.one,60⟩:Sy Td) [] 19 (hdC (loopsC (bodyOf Try.f153)) 0) ⟨[(8,.c (.one (.v (.int .i64 i))))]++anyB' (writesC (hdC (loopsC (bodyOf Try.f153)) 0)) ([(0,.c (.one (.obj 0))),(1,.c (.fn 135 [.ptr 1 0])),(7,.c (.one (.v (.int .i64 (R.length:Int)))))]++tabV f 19),[⟨.us (.ext (.vw [true,false,false,false] R)),false⟩,⟨.blk [.v (.string s)],false⟩],0⟩).al [true,false])=some qs∧∀ q∈qs,q:=
 ⟨[decide (i<(↑R.length:Int))=true,(0:Int)≤i∧i.toNat<R.length,(((R.getD i.toNat Rw.zero).ss.getD (0:Nat) (ByteArray.mk #[])).toList==s.toList)=false,Th.ext (Dk.vw [true,false,false,false] R)=Th.ext (Dk.vw [true,false,false,false] R),Value.string s=Value.string s,Value.int IntKind.i64 (IntKind.i64.wrap (i+(1:Int)))=Value.int IntKind.i64 i2],by kernel_rfl,(by refine mcons ?_ (mcons ?_ (mcons ?_ (mcons ?_ (mcons ?_ (mcons ?_ mnil)))))<;>first|rfl|exact h0|exact h1|exact h2|exact h3|trivial|(exact congrArg _ h1)|(exact h2)|(exact (congrArg (! ·) h3:_))|(exact nm_no h3)|(exact nm_yes h3))⟩
set_option maxRecDepth 100000 in
theorem ixd_x (R:List Rw) (s:ByteArray) (i i2:Int) (k:Nat) (f:Nat→Value) (h0:decide (i<(R.length:Int))=false):∃ qs,alX Id' 2 0 [] [⟨.us (.ext (.vw [true,false,false,false] R)),false⟩,⟨.blk [.v (.string s)],false⟩] ((symC (⟨Try.prog,[(135,ctrF Id' C_dcl hardD)],[],dkHo,Id'.one,60⟩:Sy Td) [] 19 (hdC (loopsC (bodyOf Try.f153)) 0) ⟨[(8,.c (.one (.v (.int .i64 i))))]++anyB' (writesC (hdC (loopsC (bodyOf Try.f153)) 0)) ([(0,.c (.one (.obj 0))),(1,.c (.fn 135 [.ptr 1 0])),(7,.c (.one (.v (.int .i64 (R.length:Int)))))]++tabV f 19),[⟨.us (.ext (.vw [true,false,false,false] R)),false⟩,⟨.blk [.v (.string s)],false⟩],0⟩).al [false])=some qs∧∀ q∈qs,q:=
 ⟨[decide (i<(↑R.length:Int))=false,Th.ext (Dk.vw [true,false,false,false] R)=Th.ext (Dk.vw [true,false,false,false] R),Value.string s=Value.string s],by kernel_rfl,(by refine mcons ?_ (mcons ?_ (mcons ?_ mnil))<;>first|rfl|exact h0|trivial|(exact congrArg _ h1)|(exact h2)|(exact (congrArg (! ·) h3:_))|(exact nm_no h3)|(exact nm_yes h3))⟩
set_option maxRecDepth 100000 in
theorem ixd_lpA (R:List Rw) (s:ByteArray) (hL:R.length≤100000)  (hall:∀ i:Int,0≤i→i.toNat<R.length→nmI R s (i)=true) {W0:World} {G:Nat→Prop} (S0:Sy Td) (hS0:S0.P=Try.prog):LoopSound S0 Id' W0 G 19 (hdC (loopsC (bodyOf Try.f153)) 0) (lpG Id' 19 (hdC (loopsC (bodyOf Try.f153)) 0) 2 [(8,.c (.one (.v (.int .i64 ((0+0:Nat):Int)))))] [(0,.c (.one (.obj 0))),(1,.c (.fn 135 [.ptr 1 0])),(7,.c (.one (.v (.int .i64 (R.length:Int)))))] [⟨.us (.ext (.vw [true,false,false,false] R)),false⟩,⟨.blk [.v (.string s)],false⟩] (.leaf (.exit 0) [] [⟨.us (.ext (.vw [true,false,false,false] R)),false⟩,⟨.blk [.v (.string s)],false⟩])):=by
 refine lp_sound (V:=fun k=>[(8,.c (.one (.v (.int .i64 ((k+0:Nat):Int)))))]) (M:=(fun k=>[⟨.us (.ext (.vw [true,false,false,false] R)),false⟩,⟨.blk [.v (.string s)],false⟩]:Nat→Mem Td)) (N:=R.length) (Ux:=fun k x=>match x with|.exit 0=>some ([],([⟨.us (.ext (.vw [true,false,false,false] R)),false⟩,⟨.blk [.v (.string s)],false⟩]:Mem Td))|_=>none) (X:=fun _ _=>True) (J:=fun k=>True) (fun k=>by kernel_rfl) trivial (fun k hk hJ f=>?_) (fun K hK k x U hk hU hX=>?_)
 ·rw [hS0]
  cases hT:decide (((k+0:Nat):Int)<(R.length:Int)) with
  |false=>
   exact rnd_xD (⟨Try.prog,[(135,ctrF Id' C_dcl hardD)],[],dkHo,Id'.one,60⟩:Sy Td) rfl ((fun (W0:World) (G:Nat→Prop)=>SyOk.mk2 Try.mixed dkHo_ok (FnsR.cons (R_dcl) (FnsR.nil)) EqsOk.nil) W0 G) (ixd_x R s ((k+0:Nat):Int) ((k+1+0:Nat):Int) k f hT) rfl trivial
  |true=>
   have hk1:=of_decide_eq_true hT
   have hW:IntKind.i64.wrap (((k+0:Nat):Int)+1)=((k+1+0:Nat):Int):=by rw [IntWalk.i64_in _ (by omega)];omega
   exact rnd_nD (⟨Try.prog,[(135,ctrF Id' C_dcl hardD)],[],dkHo,Id'.one,60⟩:Sy Td) rfl ((fun (W0:World) (G:Nat→Prop)=>SyOk.mk2 Try.mixed dkHo_ok (FnsR.cons (R_dcl) (FnsR.nil)) EqsOk.nil) W0 G) (ixd_n R s ((k+0:Nat):Int) ((k+1+0:Nat):Int) k f hT hW (by omega) (hall _ (by omega) (by omega)) ) rfl rfl (by omega) trivial
 ·revert hU
  match x with
  |.exit 0=>intro hU;simp only [Option.some.injEq] at hU;subst hU;exact hK
  |.normal=>intro hU;cases hU
  |.ret=>intro hU;cases hU
  |.exit (n+1)=>intro hU;cases hU
set_option maxRecDepth 100000 in
theorem ixd_r (R:List Rw) (s:ByteArray) (i i2:Int) (k:Nat) (f:Nat→Value) (h0:decide (i<(R.length:Int))=true) (h1:i=i2) (h2:0≤i∧i.toNat<R.length) (h3:nmI R s (i)=false):∃ qs,alR Id' 2 [(4,.c (.one (.v (.int .i64 i2))))] [⟨.us (.ext (.vw [true,false,false,false] R)),false⟩,⟨.blk [.v (.string s)],false⟩] ((symC (⟨Try.prog,[(135,ctrF Id' C_dcl hardD)],[],dkHo,Id'.one,60⟩:Sy Td) [] 19 (hdC (loopsC (bodyOf Try.f153)) 0) ⟨[(8,.c (.one (.v (.int .i64 i))))]++anyB' (writesC (hdC (loopsC (bodyOf Try.f153)) 0)) ([(0,.c (.one (.obj 0))),(1,.c (.fn 135 [.ptr 1 0])),(7,.c (.one (.v (.int .i64 (R.length:Int)))))]++tabV f 19),[⟨.us (.ext (.vw [true,false,false,false] R)),false⟩,⟨.blk [.v (.string s)],false⟩],0⟩).al [true,true])=some qs∧∀ q∈qs,q:=
 ⟨[decide (i<(↑R.length:Int))=true,(0:Int)≤i∧i.toNat<R.length,(((R.getD i.toNat Rw.zero).ss.getD (0:Nat) (ByteArray.mk #[])).toList==s.toList)=true,Th.ext (Dk.vw [true,false,false,false] R)=Th.ext (Dk.vw [true,false,false,false] R),Value.string s=Value.string s,Value.int IntKind.i64 i=Value.int IntKind.i64 i2],by kernel_rfl,(by refine mcons ?_ (mcons ?_ (mcons ?_ (mcons ?_ (mcons ?_ (mcons ?_ mnil)))))<;>first|rfl|exact h0|exact h1|exact h2|exact h3|trivial|(exact congrArg _ h1)|(exact h2)|(exact (congrArg (! ·) h3:_))|(exact nm_no h3)|(exact nm_yes h3))⟩
set_option maxRecDepth 100000 in
theorem ixd_lpR (R:List Rw) (s:ByteArray) (e:Int) (hL:R.length≤100000)  (he0:0≤e∧e.toNat<R.length) (he1:nmI R s (e)=false) (he2:∀ i:Int,0≤i→i<e→nmI R s (i)=true) {W0:World} {G:Nat→Prop} (S0:Sy Td) (hS0:S0.P=Try.prog):LoopSound S0 Id' W0 G 19 (hdC (loopsC (bodyOf Try.f153)) 0) (lpG Id' 19 (hdC (loopsC (bodyOf Try.f153)) 0) 2 [(8,.c (.one (.v (.int .i64 ((0+0:Nat):Int)))))] [(0,.c (.one (.obj 0))),(1,.c (.fn 135 [.ptr 1 0])),(7,.c (.one (.v (.int .i64 (R.length:Int)))))] [⟨.us (.ext (.vw [true,false,false,false] R)),false⟩,⟨.blk [.v (.string s)],false⟩] (.leaf .ret [(4,.c (.one (.v (.int .i64 e))))] [⟨.us (.ext (.vw [true,false,false,false] R)),false⟩,⟨.blk [.v (.string s)],false⟩])):=by
 refine lp_sound (V:=fun k=>[(8,.c (.one (.v (.int .i64 ((k+0:Nat):Int)))))]) (M:=(fun k=>[⟨.us (.ext (.vw [true,false,false,false] R)),false⟩,⟨.blk [.v (.string s)],false⟩]:Nat→Mem Td)) (N:=R.length) (Ux:=fun k x=>match x with|.ret=>some ([(4,.c (.one (.v (.int .i64 e))))],([⟨.us (.ext (.vw [true,false,false,false] R)),false⟩,⟨.blk [.v (.string s)],false⟩]:Mem Td))|_=>none) (X:=fun _ _=>True) (J:=fun k=>((k+0:Nat):Int)≤e) (fun k=>by kernel_rfl) (by omega) (fun k hk hJ f=>?_) (fun K hK k x U hk hU hX=>?_)
 ·rw [hS0]
  cases hT:decide (((k+0:Nat):Int)<(R.length:Int)) with
  |false=>
   have:=of_decide_eq_false hT
   omega
  |true=>
   have hk1:=of_decide_eq_true hT
   have hW:IntKind.i64.wrap (((k+0:Nat):Int)+1)=((k+1+0:Nat):Int):=by rw [IntWalk.i64_in _ (by omega)];omega
   cases hq:nmI R s (((k+0:Nat):Int)) with
   |true=>
    exact rnd_nD (⟨Try.prog,[(135,ctrF Id' C_dcl hardD)],[],dkHo,Id'.one,60⟩:Sy Td) rfl ((fun (W0:World) (G:Nat→Prop)=>SyOk.mk2 Try.mixed dkHo_ok (FnsR.cons (R_dcl) (FnsR.nil)) EqsOk.nil) W0 G) (ixd_n R s ((k+0:Nat):Int) ((k+1+0:Nat):Int) k f hT hW (by omega) hq ) rfl rfl (by omega) (by
     rcases Int.lt_or_eq_of_le hJ with h|h
     ·omega
     ·rw [h,he1] at hq;cases hq)
   |false=>
    have hie:((k+0:Nat):Int)=e:=by
     rcases Int.lt_or_eq_of_le hJ with h|h
     ·rw [he2 _ (by omega) h] at hq;cases hq
     ·exact h
    exact rnd_rD (⟨Try.prog,[(135,ctrF Id' C_dcl hardD)],[],dkHo,Id'.one,60⟩:Sy Td) rfl ((fun (W0:World) (G:Nat→Prop)=>SyOk.mk2 Try.mixed dkHo_ok (FnsR.cons (R_dcl) (FnsR.nil)) EqsOk.nil) W0 G) (ixd_r R s ((k+0:Nat):Int) e k f hT hie (by omega) hq ) rfl trivial
 ·revert hU
  match x with
  |.ret=>intro hU;simp only [Option.some.injEq] at hU;subst hU;exact hK
  |.normal=>intro hU;cases hU
  |.exit n=>intro hU;cases hU
set_option maxRecDepth 100000 in
theorem ixdA_w0 (R:List Rw) (s:ByteArray) :∃ qs,wayO Id' ([⟨.us (.ext (.vw [true,false,false,false] R)),false⟩,⟨.blk [.v (.string s)],false⟩]:Mem Td).length [⟨.us (.ext (.vw [true,false,false,false] R)),false⟩,⟨.blk [.v (.string s)],false⟩] (.c (.one (.v (.int .i64 (-1))))) ((runFn (⟨Try.prog,[(135,ctrF Id' C_dcl hardD)],[],dkHo,Id'.one,60⟩:Sy Td) [(2,(lpG Id' 19 (hdC (loopsC (bodyOf Try.f153)) 0) 2 [(8,.c (.one (.v (.int .i64 ((0+0:Nat):Int)))))] [(0,.c (.one (.obj 0))),(1,.c (.fn 135 [.ptr 1 0])),(7,.c (.one (.v (.int .i64 (R.length:Int)))))] [⟨.us (.ext (.vw [true,false,false,false] R)),false⟩,⟨.blk [.v (.string s)],false⟩] (.leaf (.exit 0) [] [⟨.us (.ext (.vw [true,false,false,false] R)),false⟩,⟨.blk [.v (.string s)],false⟩])))] Try.f153 [.one (.obj 0),.fn 135 [.ptr 1 0]] [⟨.us (.ext (.vw [true,false,false,false] R)),false⟩,⟨.blk [.v (.string s)],false⟩]).al [])=some qs∧∀ q∈qs,q:=
 ⟨[Value.int IntKind.i64 (↑R.length:Int)=Value.int IntKind.i64 (↑R.length:Int),Th.ext (Dk.vw [true,false,false,false] R)=Th.ext (Dk.vw [true,false,false,false] R),Value.string s=Value.string s,Value.int IntKind.i64 (Int.ofNat 0)=Value.int IntKind.i64 (Int.ofNat ((0:Nat)+(0:Nat))),Th.ext (Dk.vw [true,false,false,false] R)=Th.ext (Dk.vw [true,false,false,false] R),Value.string s=Value.string s,Value.int IntKind.i64 (Int.negSucc 0)=Value.int IntKind.i64 (Int.negSucc 0)],by kernel_rfl,(by refine mcons ?_ (mcons ?_ (mcons ?_ (mcons ?_ (mcons ?_ (mcons ?_ (mcons ?_ mnil))))))<;>first|rfl|trivial)⟩
set_option maxRecDepth 100000 in
theorem ixdR_w0 (R:List Rw) (s:ByteArray) (e:Int) :∃ qs,wayO Id' ([⟨.us (.ext (.vw [true,false,false,false] R)),false⟩,⟨.blk [.v (.string s)],false⟩]:Mem Td).length [⟨.us (.ext (.vw [true,false,false,false] R)),false⟩,⟨.blk [.v (.string s)],false⟩] (.c (.one (.v (.int .i64 e)))) ((runFn (⟨Try.prog,[(135,ctrF Id' C_dcl hardD)],[],dkHo,Id'.one,60⟩:Sy Td) [(2,(lpG Id' 19 (hdC (loopsC (bodyOf Try.f153)) 0) 2 [(8,.c (.one (.v (.int .i64 ((0+0:Nat):Int)))))] [(0,.c (.one (.obj 0))),(1,.c (.fn 135 [.ptr 1 0])),(7,.c (.one (.v (.int .i64 (R.length:Int)))))] [⟨.us (.ext (.vw [true,false,false,false] R)),false⟩,⟨.blk [.v (.string s)],false⟩] (.leaf .ret [(4,.c (.one (.v (.int .i64 e))))] [⟨.us (.ext (.vw [true,false,false,false] R)),false⟩,⟨.blk [.v (.string s)],false⟩])))] Try.f153 [.one (.obj 0),.fn 135 [.ptr 1 0]] [⟨.us (.ext (.vw [true,false,false,false] R)),false⟩,⟨.blk [.v (.string s)],false⟩]).al [])=some qs∧∀ q∈qs,q:=
 ⟨[Value.int IntKind.i64 (↑R.length:Int)=Value.int IntKind.i64 (↑R.length:Int),Th.ext (Dk.vw [true,false,false,false] R)=Th.ext (Dk.vw [true,false,false,false] R),Value.string s=Value.string s,Value.int IntKind.i64 (Int.ofNat 0)=Value.int IntKind.i64 (Int.ofNat ((0:Nat)+(0:Nat))),Th.ext (Dk.vw [true,false,false,false] R)=Th.ext (Dk.vw [true,false,false,false] R),Value.string s=Value.string s,Value.int IntKind.i64 e=Value.int IntKind.i64 e],by kernel_rfl,(by refine mcons ?_ (mcons ?_ (mcons ?_ (mcons ?_ (mcons ?_ (mcons ?_ (mcons ?_ mnil))))))<;>first|rfl|trivial)⟩
def C_ixd:Ctr Td:=fun us sub=>match us,sub with
 |[.one (.obj 0),.fn 135 [.ptr 1 0]],[⟨.us (.ext (.vw [true,false,false,false] R)),false⟩,⟨.blk [.v (.string s)],false⟩]=>some ([R.length≤100000],.c (.one (.v (.int .i64 (fstI R.length (nmI R s))))),[⟨.us (.ext (.vw [true,false,false,false] R)),false⟩,⟨.blk [.v (.string s)],false⟩])
 |_,_=>none
set_option maxRecDepth 100000 in
theorem C_ixd_ok:CtrOk Try.prog Id' 153 C_ixd:=by
 intro us sub ps x sm h hp w e vs hM ha
 unfold C_ixd at h
 split at h
 ·rename_i R s
  simp only [Option.some.injEq,Prod.mk.injEq] at h
  obtain ⟨rfl,rfl,rfl⟩:=h
  have hL:R.length≤100000:=hp _ (List.mem_cons_self ..)
  rcases fst_cases R.length (nmI R s) with ⟨hv,hall⟩|⟨h1,h2,h3,h4⟩
  ·rw [hv]
   exact ctr_way (I:=Id') (fun (W0:World) (G:Nat→Prop)=>SyOk.mk2 Try.mixed dkHo_ok (FnsR.cons (R_dcl) (FnsR.nil)) EqsOk.nil) rfl Try.func153 (by kernel_rfl) (fun W0 G=>LpsOk.cons (by kernel_rfl) (ixd_lpA R s hL hall _ rfl) (LpsOk.nil _)) (cs:=[]) (by kernel_rfl) (ixdA_w0 R s ) w e vs hM ha
  ·exact ctr_way (I:=Id') (fun (W0:World) (G:Nat→Prop)=>SyOk.mk2 Try.mixed dkHo_ok (FnsR.cons (R_dcl) (FnsR.nil)) EqsOk.nil) rfl Try.func153 (by kernel_rfl) (fun W0 G=>LpsOk.cons (by kernel_rfl) (ixd_lpR R s _ hL ⟨h1,h2⟩ h3 h4 _ rfl) (LpsOk.nil _)) (cs:=[]) (by kernel_rfl) (ixdR_w0 R s _ ) w e vs hM ha
 ·cases h
end Go.Proofs.Ytdenmoiaiemokaa
