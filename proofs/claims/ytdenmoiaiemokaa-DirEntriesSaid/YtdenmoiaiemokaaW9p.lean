/- W9. -/
import Derived.Test.YtdenmoiaiemokaaW8p
set_option linter.unusedVariables false
set_option linter.unusedSimpArgs false
namespace Go.Proofs.Ytdenmoiaiemokaa
open Go.RowKit
def sameE (r x:Rw):Bool:=r.ss.getD 0 ⟨#[]⟩==x.ss.getD 0 ⟨#[]⟩&&(r.is.getD 0 0==x.is.getD 0 0&&(r.is.getD 1 0==x.is.getD 1 0&&true)&&(r.is.getD 2 0==x.is.getD 2 0&&true))
def sameI (R X:List Rw) (i:Int):Bool:=sameE (R.getD i.toNat Rw.zero) (X.getD i.toNat Rw.zero)
def allI (o n:Nat) (p:Int→Bool):Bool:=(List.range n).all fun j=>decide (j<o)||p (j:Int)
theorem allI_cases (o n:Nat) (p:Int→Bool):(allI o n p=true∧∀ i:Int,(o:Int)≤i→i.toNat<n→p i=true)∨(allI o n p=false∧∃ i:Int,(o:Int)≤i∧i.toNat<n∧p i=false):=by
 cases h:allI o n p with
 |true=>
  refine .inl ⟨rfl,fun i h0 h1=>?_⟩
  have:=List.all_eq_true.1 h i.toNat (List.mem_range.2 h1)
  rw [decide_eq_false (by omega),Bool.false_or,Int.toNat_of_nonneg (by omega)] at this
  exact this
 |false=>
  obtain ⟨j,h1,h2⟩:=List.all_eq_false.1 h
  rw [Bool.not_eq_true,Bool.or_eq_false_iff] at h2
  have:=of_decide_eq_false h2.1
  exact .inr ⟨rfl,(j:Int),by omega,by have:=List.mem_range.1 h1;omega,h2.2⟩
def sameR (R X:List Rw):Bool:=decide ((R.length:Int)=(X.length:Int))&&allI 0 R.length (sameI R X)
set_option maxRecDepth 100000 in
theorem rsame_n (R X:List Rw) (i i2:Int) (k:Nat) (f:Nat→Value) (h0:decide (i<(R.length:Int))=true) (h1:IntKind.i64.wrap (i+1)=i2) (h2:0≤i∧i.toNat<R.length) (h3:sameI R X i=true) (h4:R.length=X.length):∃ qs,alN Id' 2 [(5,.c (.one (.v (.int .i64 i2))))] [⟨.us (.ext (.vw [true,false,false,false] R)),false⟩,⟨.us (.ext (.vw [true,false,false,false] X)),false⟩] ((symC (⟨Try.prog,[],[E_of Try.prog 109],dkHo,Id'.one,60⟩:Sy Td) [] 26 (hdC (loopsC (bodyOf Try.f63)) 0) ⟨[(5,.c (.one (.v (.int .i64 i))))]++anyB' (writesC (hdC (loopsC (bodyOf Try.f63)) 0)) ([(0,.c (.one (.obj 0))),(1,.c (.one (.obj 1)))]++tabV f 26),[⟨.us (.ext (.vw [true,false,false,false] R)),false⟩,⟨.us (.ext (.vw [true,false,false,false] X)),false⟩],0⟩).al [true,false])=some qs∧∀ q∈qs,q:=
 ⟨[decide (i<(↑R.length:Int))=true,(0:Int)≤i∧i.toNat<X.length,(0:Int)≤i∧i.toNat<R.length,(!((R.getD i.toNat Rw.zero).ss.getD (0:Nat) (ByteArray.mk #[])==(X.getD i.toNat Rw.zero).ss.getD (0:Nat) (ByteArray.mk #[])&&((R.getD i.toNat Rw.zero).is.getD (0:Nat) (0:Int)==(X.getD i.toNat Rw.zero).is.getD (0:Nat) (0:Int)&&((R.getD i.toNat Rw.zero).is.getD ((0:Nat)+(1:Nat)) (0:Int)==(X.getD i.toNat Rw.zero).is.getD ((0:Nat)+(1:Nat)) (0:Int)&&true)&&((R.getD i.toNat Rw.zero).is.getD ((0:Nat)+(1:Nat)+(1:Nat)) (0:Int)==(X.getD i.toNat Rw.zero).is.getD ((0:Nat)+(1:Nat)+(1:Nat)) (0:Int)&&true))))=false,Th.ext (Dk.vw [true,false,false,false] R)=Th.ext (Dk.vw [true,false,false,false] R),Th.ext (Dk.vw [true,false,false,false] X)=Th.ext (Dk.vw [true,false,false,false] X),Value.int IntKind.i64 (IntKind.i64.wrap (i+(1:Int)))=Value.int IntKind.i64 i2],by kernel_rfl,(by refine mcons ?_ (mcons ?_ (mcons ?_ (mcons ?_ (mcons ?_ (mcons ?_ (mcons ?_ mnil))))))<;>first|rfl|exact h0|exact h1|exact h2|exact h3|exact h4|trivial|(exact congrArg _ h1)|(exact h2)|(exact ⟨h2.1,by have:=h2.2;show i.toNat<X.length;omega⟩)|(exact (congrArg (! ·) h3:_))|(have h:=h3;unfold sameI at h;exact congrArg (! ·) h)|(simp only [sameI] at h3;exact congrArg (! ·) h3))⟩
set_option maxRecDepth 100000 in
theorem rsame_x (R X:List Rw) (i i2:Int) (k:Nat) (f:Nat→Value) (h0:decide (i<(R.length:Int))=false):∃ qs,alX Id' 2 0 [] [⟨.us (.ext (.vw [true,false,false,false] R)),false⟩,⟨.us (.ext (.vw [true,false,false,false] X)),false⟩] ((symC (⟨Try.prog,[],[E_of Try.prog 109],dkHo,Id'.one,60⟩:Sy Td) [] 26 (hdC (loopsC (bodyOf Try.f63)) 0) ⟨[(5,.c (.one (.v (.int .i64 i))))]++anyB' (writesC (hdC (loopsC (bodyOf Try.f63)) 0)) ([(0,.c (.one (.obj 0))),(1,.c (.one (.obj 1)))]++tabV f 26),[⟨.us (.ext (.vw [true,false,false,false] R)),false⟩,⟨.us (.ext (.vw [true,false,false,false] X)),false⟩],0⟩).al [false])=some qs∧∀ q∈qs,q:=
 ⟨[decide (i<(↑R.length:Int))=false,Th.ext (Dk.vw [true,false,false,false] R)=Th.ext (Dk.vw [true,false,false,false] R),Th.ext (Dk.vw [true,false,false,false] X)=Th.ext (Dk.vw [true,false,false,false] X)],by kernel_rfl,(by refine mcons ?_ (mcons ?_ (mcons ?_ mnil))<;>first|rfl|exact h0|trivial|(exact congrArg _ h1)|(exact h2)|(exact ⟨h2.1,by have:=h2.2;show i.toNat<X.length;omega⟩)|(exact (congrArg (! ·) h3:_))|(have h:=h3;unfold sameI at h;exact congrArg (! ·) h)|(simp only [sameI] at h3;exact congrArg (! ·) h3))⟩
set_option maxRecDepth 100000 in
theorem rsame_r (R X:List Rw) (i i2:Int) (k:Nat) (f:Nat→Value) (h0:decide (i<(R.length:Int))=true) (h1:IntKind.i64.wrap (i+1)=i2) (h2:0≤i∧i.toNat<R.length) (h3:sameI R X i=false) (h4:R.length=X.length):∃ qs,alR Id' 2 [(4,.c (.one (.kB false)))] [⟨.us (.ext (.vw [true,false,false,false] R)),false⟩,⟨.us (.ext (.vw [true,false,false,false] X)),false⟩] ((symC (⟨Try.prog,[],[E_of Try.prog 109],dkHo,Id'.one,60⟩:Sy Td) [] 26 (hdC (loopsC (bodyOf Try.f63)) 0) ⟨[(5,.c (.one (.v (.int .i64 i))))]++anyB' (writesC (hdC (loopsC (bodyOf Try.f63)) 0)) ([(0,.c (.one (.obj 0))),(1,.c (.one (.obj 1)))]++tabV f 26),[⟨.us (.ext (.vw [true,false,false,false] R)),false⟩,⟨.us (.ext (.vw [true,false,false,false] X)),false⟩],0⟩).al [true,true])=some qs∧∀ q∈qs,q:=
 ⟨[decide (i<(↑R.length:Int))=true,(0:Int)≤i∧i.toNat<X.length,(0:Int)≤i∧i.toNat<R.length,(!((R.getD i.toNat Rw.zero).ss.getD (0:Nat) (ByteArray.mk #[])==(X.getD i.toNat Rw.zero).ss.getD (0:Nat) (ByteArray.mk #[])&&((R.getD i.toNat Rw.zero).is.getD (0:Nat) (0:Int)==(X.getD i.toNat Rw.zero).is.getD (0:Nat) (0:Int)&&((R.getD i.toNat Rw.zero).is.getD ((0:Nat)+(1:Nat)) (0:Int)==(X.getD i.toNat Rw.zero).is.getD ((0:Nat)+(1:Nat)) (0:Int)&&true)&&((R.getD i.toNat Rw.zero).is.getD ((0:Nat)+(1:Nat)+(1:Nat)) (0:Int)==(X.getD i.toNat Rw.zero).is.getD ((0:Nat)+(1:Nat)+(1:Nat)) (0:Int)&&true))))=true,Th.ext (Dk.vw [true,false,false,false] R)=Th.ext (Dk.vw [true,false,false,false] R),Th.ext (Dk.vw [true,false,false,false] X)=Th.ext (Dk.vw [true,false,false,false] X),Value.bool false=Value.bool false],by kernel_rfl,(by refine mcons ?_ (mcons ?_ (mcons ?_ (mcons ?_ (mcons ?_ (mcons ?_ (mcons ?_ mnil))))))<;>first|rfl|exact h0|exact h1|exact h2|exact h3|exact h4|trivial|(exact congrArg _ h1)|(exact h2)|(exact ⟨h2.1,by have:=h2.2;show i.toNat<X.length;omega⟩)|(exact (congrArg (! ·) h3:_))|(have h:=h3;unfold sameI at h;exact congrArg (! ·) h)|(simp only [sameI] at h3;exact congrArg (! ·) h3))⟩
set_option maxRecDepth 100000 in
theorem rsame_lpA (R X:List Rw) (hL:R.length≤100000) (x0:R.length=X.length) (hall:∀ i:Int,0≤i→i.toNat<R.length→sameI R X i=true) {W0:World} {G:Nat→Prop} (S0:Sy Td) (hS0:S0.P=Try.prog):LoopSound S0 Id' W0 G 26 (hdC (loopsC (bodyOf Try.f63)) 0) (lpG Id' 26 (hdC (loopsC (bodyOf Try.f63)) 0) 2 [(5,.c (.one (.v (.int .i64 ((0+0:Nat):Int)))))] [(0,.c (.one (.obj 0))),(1,.c (.one (.obj 1)))] [⟨.us (.ext (.vw [true,false,false,false] R)),false⟩,⟨.us (.ext (.vw [true,false,false,false] X)),false⟩] (.leaf (.exit 0) [] [⟨.us (.ext (.vw [true,false,false,false] R)),false⟩,⟨.us (.ext (.vw [true,false,false,false] X)),false⟩])):=by
 refine lp_sound (V:=fun k=>[(5,.c (.one (.v (.int .i64 ((k+0:Nat):Int)))))]) (M:=(fun k=>[⟨.us (.ext (.vw [true,false,false,false] R)),false⟩,⟨.us (.ext (.vw [true,false,false,false] X)),false⟩]:Nat→Mem Td)) (N:=R.length) (Ux:=fun k x=>match x with|.exit 0=>some ([],([⟨.us (.ext (.vw [true,false,false,false] R)),false⟩,⟨.us (.ext (.vw [true,false,false,false] X)),false⟩]:Mem Td))|_=>none) (X:=fun _ _=>True) (J:=fun k=>True) (fun k=>by kernel_rfl) trivial (fun k hk hJ f=>?_) (fun K hK k x U hk hU hX=>?_)
 ·rw [hS0]
  cases hT:decide (((k+0:Nat):Int)<(R.length:Int)) with
  |false=>
   exact rnd_xD (⟨Try.prog,[],[E_of Try.prog 109],dkHo,Id'.one,60⟩:Sy Td) rfl ((fun (W0:World) (G:Nat→Prop)=>SyOk.mk2 Try.mixed dkHo_ok (FnsR.nil) (E_of_ok (by kernel_rfl) (EqsOk.nil))) W0 G) (rsame_x R X ((k+0:Nat):Int) ((k+1+0:Nat):Int) k f hT) rfl trivial
  |true=>
   have hk1:=of_decide_eq_true hT
   have hW:IntKind.i64.wrap (((k+0:Nat):Int)+1)=((k+1+0:Nat):Int):=by rw [IntWalk.i64_in _ (by omega)];omega
   exact rnd_nD (⟨Try.prog,[],[E_of Try.prog 109],dkHo,Id'.one,60⟩:Sy Td) rfl ((fun (W0:World) (G:Nat→Prop)=>SyOk.mk2 Try.mixed dkHo_ok (FnsR.nil) (E_of_ok (by kernel_rfl) (EqsOk.nil))) W0 G) (rsame_n R X ((k+0:Nat):Int) ((k+1+0:Nat):Int) k f hT hW (by omega) (hall _ (by omega) (by omega)) x0) rfl rfl (by omega) trivial
 ·revert hU
  match x with
  |.exit 0=>intro hU;simp only [Option.some.injEq] at hU;subst hU;exact hK
  |.normal=>intro hU;cases hU
  |.ret=>intro hU;cases hU
  |.exit (n+1)=>intro hU;cases hU
set_option maxRecDepth 100000 in
theorem rsame_lpR (R X:List Rw) (hL:R.length≤100000) (x0:R.length=X.length) (hex:∃ i:Int,0≤i∧i.toNat<R.length∧sameI R X i=false) {W0:World} {G:Nat→Prop} (S0:Sy Td) (hS0:S0.P=Try.prog):LoopSound S0 Id' W0 G 26 (hdC (loopsC (bodyOf Try.f63)) 0) (lpG Id' 26 (hdC (loopsC (bodyOf Try.f63)) 0) 2 [(5,.c (.one (.v (.int .i64 ((0+0:Nat):Int)))))] [(0,.c (.one (.obj 0))),(1,.c (.one (.obj 1)))] [⟨.us (.ext (.vw [true,false,false,false] R)),false⟩,⟨.us (.ext (.vw [true,false,false,false] X)),false⟩] (.leaf .ret [(4,.c (.one (.kB false)))] [⟨.us (.ext (.vw [true,false,false,false] R)),false⟩,⟨.us (.ext (.vw [true,false,false,false] X)),false⟩])):=by
 refine lp_sound (V:=fun k=>[(5,.c (.one (.v (.int .i64 ((k+0:Nat):Int)))))]) (M:=(fun k=>[⟨.us (.ext (.vw [true,false,false,false] R)),false⟩,⟨.us (.ext (.vw [true,false,false,false] X)),false⟩]:Nat→Mem Td)) (N:=R.length) (Ux:=fun k x=>match x with|.ret=>some ([(4,.c (.one (.kB false)))],([⟨.us (.ext (.vw [true,false,false,false] R)),false⟩,⟨.us (.ext (.vw [true,false,false,false] X)),false⟩]:Mem Td))|_=>none) (X:=fun _ _=>True) (J:=fun k=>∀ i:Int,0≤i→i<((k+0:Nat):Int)→sameI R X i=true) (fun k=>by kernel_rfl) (fun i h0 h1=>by omega) (fun k hk hJ f=>?_) (fun K hK k x U hk hU hX=>?_)
 ·rw [hS0]
  cases hT:decide (((k+0:Nat):Int)<(R.length:Int)) with
  |false=>
   obtain ⟨j,j0,j1,j2⟩:=hex
   have:=of_decide_eq_false hT
   rw [hJ j j0 (by omega)] at j2
   cases j2
  |true=>
   have hk1:=of_decide_eq_true hT
   have hW:IntKind.i64.wrap (((k+0:Nat):Int)+1)=((k+1+0:Nat):Int):=by rw [IntWalk.i64_in _ (by omega)];omega
   cases hq:sameI R X ((k+0:Nat):Int) with
   |true=>exact rnd_nD (⟨Try.prog,[],[E_of Try.prog 109],dkHo,Id'.one,60⟩:Sy Td) rfl ((fun (W0:World) (G:Nat→Prop)=>SyOk.mk2 Try.mixed dkHo_ok (FnsR.nil) (E_of_ok (by kernel_rfl) (EqsOk.nil))) W0 G) (rsame_n R X ((k+0:Nat):Int) ((k+1+0:Nat):Int) k f hT hW (by omega) hq x0) rfl rfl (by omega) (fun i h0 h1=>by
     by_cases he:i=((k+0:Nat):Int)
     ·subst he;exact hq
     ·exact hJ i h0 (by omega))
   |false=>exact rnd_rD (⟨Try.prog,[],[E_of Try.prog 109],dkHo,Id'.one,60⟩:Sy Td) rfl ((fun (W0:World) (G:Nat→Prop)=>SyOk.mk2 Try.mixed dkHo_ok (FnsR.nil) (E_of_ok (by kernel_rfl) (EqsOk.nil))) W0 G) (rsame_r R X ((k+0:Nat):Int) ((k+1+0:Nat):Int) k f hT hW (by omega) hq x0) rfl trivial
 ·revert hU
  match x with
  |.ret=>intro hU;simp only [Option.some.injEq] at hU;subst hU;exact hK
  |.normal=>intro hU;cases hU
  |.exit n=>intro hU;cases hU
set_option maxRecDepth 100000 in
theorem rsameD_w0 (R X:List Rw) (h0:(!decide ((R.length:Int)=(X.length:Int)))=true):∃ qs,wayO Id' ([⟨.us (.ext (.vw [true,false,false,false] R)),false⟩,⟨.us (.ext (.vw [true,false,false,false] X)),false⟩]:Mem Td).length [⟨.us (.ext (.vw [true,false,false,false] R)),false⟩,⟨.us (.ext (.vw [true,false,false,false] X)),false⟩] (svV (.bool false)) ((runFn (⟨Try.prog,[],[E_of Try.prog 109],dkHo,Id'.one,60⟩:Sy Td) [] Try.f63 [.one (.obj 0),.one (.obj 1)] [⟨.us (.ext (.vw [true,false,false,false] R)),false⟩,⟨.us (.ext (.vw [true,false,false,false] X)),false⟩]).al [true])=some qs∧∀ q∈qs,q:=
 ⟨[((↑R.length:Int) != (↑X.length:Int))=true,Th.ext (Dk.vw [true,false,false,false] R)=Th.ext (Dk.vw [true,false,false,false] R),Th.ext (Dk.vw [true,false,false,false] X)=Th.ext (Dk.vw [true,false,false,false] X),Value.bool false=Value.bool false],by kernel_rfl,(by refine mcons ?_ (mcons ?_ (mcons ?_ (mcons ?_ mnil)))<;>first|rfl|exact h0|trivial)⟩
set_option maxRecDepth 100000 in
theorem rsameA_w0 (R X:List Rw) (h0:(!decide ((R.length:Int)=(X.length:Int)))=false):∃ qs,wayO Id' ([⟨.us (.ext (.vw [true,false,false,false] R)),false⟩,⟨.us (.ext (.vw [true,false,false,false] X)),false⟩]:Mem Td).length [⟨.us (.ext (.vw [true,false,false,false] R)),false⟩,⟨.us (.ext (.vw [true,false,false,false] X)),false⟩] (svV (.bool true)) ((runFn (⟨Try.prog,[],[E_of Try.prog 109],dkHo,Id'.one,60⟩:Sy Td) [(4,(lpG Id' 26 (hdC (loopsC (bodyOf Try.f63)) 0) 2 [(5,.c (.one (.v (.int .i64 ((0+0:Nat):Int)))))] [(0,.c (.one (.obj 0))),(1,.c (.one (.obj 1)))] [⟨.us (.ext (.vw [true,false,false,false] R)),false⟩,⟨.us (.ext (.vw [true,false,false,false] X)),false⟩] (.leaf (.exit 0) [] [⟨.us (.ext (.vw [true,false,false,false] R)),false⟩,⟨.us (.ext (.vw [true,false,false,false] X)),false⟩])))] Try.f63 [.one (.obj 0),.one (.obj 1)] [⟨.us (.ext (.vw [true,false,false,false] R)),false⟩,⟨.us (.ext (.vw [true,false,false,false] X)),false⟩]).al [false])=some qs∧∀ q∈qs,q:=
 ⟨[((↑R.length:Int) != (↑X.length:Int))=false,Th.ext (Dk.vw [true,false,false,false] R)=Th.ext (Dk.vw [true,false,false,false] R),Th.ext (Dk.vw [true,false,false,false] X)=Th.ext (Dk.vw [true,false,false,false] X),Value.int IntKind.i64 (Int.ofNat 0)=Value.int IntKind.i64 (Int.ofNat ((0:Nat)+(0:Nat))),Th.ext (Dk.vw [true,false,false,false] R)=Th.ext (Dk.vw [true,false,false,false] R),Th.ext (Dk.vw [true,false,false,false] X)=Th.ext (Dk.vw [true,false,false,false] X),Value.bool true=Value.bool true],by kernel_rfl,(by refine mcons ?_ (mcons ?_ (mcons ?_ (mcons ?_ (mcons ?_ (mcons ?_ (mcons ?_ mnil))))))<;>first|rfl|exact h0|trivial)⟩
set_option maxRecDepth 100000 in
theorem rsameR_w0 (R X:List Rw) (h0:(!decide ((R.length:Int)=(X.length:Int)))=false):∃ qs,wayO Id' ([⟨.us (.ext (.vw [true,false,false,false] R)),false⟩,⟨.us (.ext (.vw [true,false,false,false] X)),false⟩]:Mem Td).length [⟨.us (.ext (.vw [true,false,false,false] R)),false⟩,⟨.us (.ext (.vw [true,false,false,false] X)),false⟩] (svV (.bool false)) ((runFn (⟨Try.prog,[],[E_of Try.prog 109],dkHo,Id'.one,60⟩:Sy Td) [(4,(lpG Id' 26 (hdC (loopsC (bodyOf Try.f63)) 0) 2 [(5,.c (.one (.v (.int .i64 ((0+0:Nat):Int)))))] [(0,.c (.one (.obj 0))),(1,.c (.one (.obj 1)))] [⟨.us (.ext (.vw [true,false,false,false] R)),false⟩,⟨.us (.ext (.vw [true,false,false,false] X)),false⟩] (.leaf .ret [(4,.c (.one (.kB false)))] [⟨.us (.ext (.vw [true,false,false,false] R)),false⟩,⟨.us (.ext (.vw [true,false,false,false] X)),false⟩])))] Try.f63 [.one (.obj 0),.one (.obj 1)] [⟨.us (.ext (.vw [true,false,false,false] R)),false⟩,⟨.us (.ext (.vw [true,false,false,false] X)),false⟩]).al [false])=some qs∧∀ q∈qs,q:=
 ⟨[((↑R.length:Int) != (↑X.length:Int))=false,Th.ext (Dk.vw [true,false,false,false] R)=Th.ext (Dk.vw [true,false,false,false] R),Th.ext (Dk.vw [true,false,false,false] X)=Th.ext (Dk.vw [true,false,false,false] X),Value.int IntKind.i64 (Int.ofNat 0)=Value.int IntKind.i64 (Int.ofNat ((0:Nat)+(0:Nat))),Th.ext (Dk.vw [true,false,false,false] R)=Th.ext (Dk.vw [true,false,false,false] R),Th.ext (Dk.vw [true,false,false,false] X)=Th.ext (Dk.vw [true,false,false,false] X),Value.bool false=Value.bool false],by kernel_rfl,(by refine mcons ?_ (mcons ?_ (mcons ?_ (mcons ?_ (mcons ?_ (mcons ?_ (mcons ?_ mnil))))))<;>first|rfl|exact h0|trivial)⟩
def C_rsame:Ctr Td:=fun us sub=>match us,sub with
 |[.one (.obj 0),.one (.obj 1)],[⟨.us (.ext (.vw [true,false,false,false] R)),false⟩,⟨.us (.ext (.vw [true,false,false,false] X)),false⟩]=>some ([R.length≤100000],svV (.bool (sameR R X)),[⟨.us (.ext (.vw [true,false,false,false] R)),false⟩,⟨.us (.ext (.vw [true,false,false,false] X)),false⟩])
 |_,_=>none
set_option maxRecDepth 100000 in
theorem C_rsame_ok:CtrOk Try.prog Id' 63 C_rsame:=by
 intro us sub ps x sm h hp w e vs hM ha
 unfold C_rsame at h
 split at h
 ·rename_i R X
  simp only [Option.some.injEq,Prod.mk.injEq] at h
  obtain ⟨rfl,rfl,rfl⟩:=h
  have hL:R.length≤100000:=hp _ (List.mem_cons_self ..)
  cases hq:(!decide ((R.length:Int)=(X.length:Int))) with
  |true=>
   have hv:sameR R X=false:=by
    unfold sameR
    rw [show decide ((R.length:Int)=(X.length:Int))=false by simpa using hq];rfl
   rw [hv]
   exact ctr_way (I:=Id') (fun (W0:World) (G:Nat→Prop)=>SyOk.mk2 Try.mixed dkHo_ok (FnsR.nil) (E_of_ok (by kernel_rfl) (EqsOk.nil))) rfl Try.func63 (by kernel_rfl) (fun _ _=>LpsOk.nil _) (cs:=[true]) (by kernel_rfl) (rsameD_w0 R X hq) w e vs hM ha
  |false=>
   have hd:decide ((R.length:Int)=(X.length:Int))=true:=by simpa using hq
   have hl:R.length=X.length:=by have:=of_decide_eq_true hd;omega
   rcases allI_cases 0 R.length (sameI R X) with ⟨ha0,hall⟩|⟨ha0,hex⟩
   ·have hv:sameR R X=true:=by unfold sameR;rw [hd,ha0];rfl
    rw [hv]
    exact ctr_way (I:=Id') (fun (W0:World) (G:Nat→Prop)=>SyOk.mk2 Try.mixed dkHo_ok (FnsR.nil) (E_of_ok (by kernel_rfl) (EqsOk.nil))) rfl Try.func63 (by kernel_rfl) (fun _ _=>LpsOk.cons (by kernel_rfl) (rsame_lpA R X hL hl hall _ rfl) (LpsOk.nil _)) (cs:=[false]) (by kernel_rfl) (rsameA_w0 R X hq) w e vs hM ha
   ·have hv:sameR R X=false:=by unfold sameR;rw [hd,ha0];rfl
    rw [hv]
    exact ctr_way (I:=Id') (fun (W0:World) (G:Nat→Prop)=>SyOk.mk2 Try.mixed dkHo_ok (FnsR.nil) (E_of_ok (by kernel_rfl) (EqsOk.nil))) rfl Try.func63 (by kernel_rfl) (fun _ _=>LpsOk.cons (by kernel_rfl) (rsame_lpR R X hL hl hex _ rfl) (LpsOk.nil _)) (cs:=[false]) (by kernel_rfl) (rsameR_w0 R X hq) w e vs hM ha
 ·cases h
theorem R_rsame:RowOk Try.prog Id' hardD 63 (ctrF Id' C_rsame hardD):=ctrF_ok Try.call63 C_rsame_ok
end Go.Proofs.Ytdenmoiaiemokaa
