/- W9 W10 W11 W12 W13. -/
import Derived.Test.YtdenmoiaiemokaaW8p
import Derived.Laws.RangeAny
import Derived.Laws.RangeString
import Derived.Lib.OthersKept
import Derived.LoopTactic
import Derived.IntWalk
set_option linter.unusedVariables false
set_option linter.unusedSimpArgs false
namespace Go.Proofs.Ytdenmoiaiemokaa
open Go.RowKit
def sameE (r x:Rw):Bool:=r.ss.getD 0 ⟨#[]⟩==x.ss.getD 0 ⟨#[]⟩&&(r.is.getD 0 0==x.is.getD 0 0&&(r.is.getD 1 0==x.is.getD 1 0&&true)&&(r.is.getD 2 0==x.is.getD 2 0&&true))
def sameI (R X:List Rw) (i:Int):Bool:=sameE (R.getD i.toNat Rw.zero) (X.getD i.toNat Rw.zero)
def allI (o n:Nat) (p:Int→Bool):Bool:=(List.range n).all fun j=>decide (j<o)||p (j:Int)
theorem allI_cases (o n:Nat) (p:Int→Bool):(allI o n p=true∧∀ i:Int,(o:Int)≤i→i.toNat<n→p i=true)∨(allI o n p=false∧∃ i:Int,(o:Int)≤i∧i.toNat<n∧p i=false):=by
 cases h:allI o n p with
 |true=>
  refine .inl ⟨rfl,fun i h0 h1=>?_⟩
  have:=List.all_eq_true.1 h i.toNat (List.mem_range.2 h1)
  rw [decide_eq_false (by omega),Bool.false_or,Int.toNat_of_nonneg (by omega)] at this
  exact this
 |false=>
  obtain ⟨j,h1,h2⟩:=List.all_eq_false.1 h
  rw [Bool.not_eq_true,Bool.or_eq_false_iff] at h2
  have:=of_decide_eq_false h2.1
  exact .inr ⟨rfl,(j:Int),by omega,by have:=List.mem_range.1 h1;omega,h2.2⟩
def sameR (R X:List Rw):Bool:=decide ((R.length:Int)=(X.length:Int))&&allI 0 R.length (sameI R X)
set_option maxRecDepth 100000 in
theorem rsame_n (R X:List Rw) (i i2:Int) (k:Nat) (f:Nat→Value) (h0:decide (i<(R.length:Int))=true) (h1:IntKind.i64.wrap (i+1)=i2) (h2:0≤i∧i.toNat<R.length) (h3:sameI R X i=true) (h4:R.length=X.length):∃ qs,alN Id' 2 [(5,.c (.one (.v (.int .i64 i2))))] [⟨.us (.ext (.vw [true,false,false,false] R)),false⟩,⟨.us (.ext (.vw [true,false,false,false] X)),false⟩] ((symC (⟨Try.prog,[],[E_of Try.prog 109],dkHo,Id'.one,60⟩:Sy Td) [] 26 (hdC (loopsC (bodyOf Try.f63)) 0) ⟨[(5,.c (.one (.v (.int .i64 i))))]++anyB' (writesC (hdC (loopsC (bodyOf Try.f63)) 0)) ([(0,.c (.one (.obj 0))),(1,.c (.one (.obj 1)))]++tabV f 26),[⟨.us (.ext (.vw [true,false,false,false] R)),false⟩,⟨.us (.ext (.vw [true,false,false,false] X)),false⟩],0⟩).al [true,false])=some qs∧∀ q∈qs,q:=
 ⟨[decide (i<(↑R.length:Int))=true,(0:Int)≤i∧i.toNat<X.length,(0:Int)≤i∧i.toNat<R.length,(!((R.getD i.toNat Rw.zero).ss.getD (0:Nat) (ByteArray.mk #[])==(X.getD i.toNat Rw.zero).ss.getD (0:Nat) (ByteArray.mk #[])&&((R.getD i.toNat Rw.zero).is.getD (0:Nat) (0:Int)==(X.getD i.toNat Rw.zero).is.getD (0:Nat) (0:Int)&&((R.getD i.toNat Rw.zero).is.getD ((0:Nat)+(1:Nat)) (0:Int)==(X.getD i.toNat Rw.zero).is.getD ((0:Nat)+(1:Nat)) (0:Int)&&true)&&((R.getD i.toNat Rw.zero).is.getD ((0:Nat)+(1:Nat)+(1:Nat)) (0:Int)==(X.getD i.toNat Rw.zero).is.getD ((0:Nat)+(1:Nat)+(1:Nat)) (0:Int)&&true))))=false,Th.ext (Dk.vw [true,false,false,false] R)=Th.ext (Dk.vw [true,false,false,false] R),Th.ext (Dk.vw [true,false,false,false] X)=Th.ext (Dk.vw [true,false,false,false] X),Value.int IntKind.i64 (IntKind.i64.wrap (i+(1:Int)))=Value.int IntKind.i64 i2],by kernel_rfl,(by refine mcons ?_ (mcons ?_ (mcons ?_ (mcons ?_ (mcons ?_ (mcons ?_ (mcons ?_ mnil))))))<;>first|rfl|exact h0|exact h1|exact h2|exact h3|exact h4|trivial|(exact congrArg _ h1)|(exact h2)|(exact ⟨h2.1,by have:=h2.2;show i.toNat<X.length;omega⟩)|(exact (congrArg (! ·) h3:_))|(have h:=h3;unfold sameI at h;exact congrArg (! ·) h)|(simp only [sameI] at h3;exact congrArg (! ·) h3))⟩
set_option maxRecDepth 100000 in
theorem rsame_x (R X:List Rw) (i i2:Int) (k:Nat) (f:Nat→Value) (h0:decide (i<(R.length:Int))=false):∃ qs,alX Id' 2 0 [] [⟨.us (.ext (.vw [true,false,false,false] R)),false⟩,⟨.us (.ext (.vw [true,false,false,false] X)),false⟩] ((symC (⟨Try.prog,[],[E_of Try.prog 109],dkHo,Id'.one,60⟩:Sy Td) [] 26 (hdC (loopsC (bodyOf Try.f63)) 0) ⟨[(5,.c (.one (.v (.int .i64 i))))]++anyB' (writesC (hdC (loopsC (bodyOf Try.f63)) 0)) ([(0,.c (.one (.obj 0))),(1,.c (.one (.obj 1)))]++tabV f 26),[⟨.us (.ext (.vw [true,false,false,false] R)),false⟩,⟨.us (.ext (.vw [true,false,false,false] X)),false⟩],0⟩).al [false])=some qs∧∀ q∈qs,q:=
 ⟨[decide (i<(↑R.length:Int))=false,Th.ext (Dk.vw [true,false,false,false] R)=Th.ext (Dk.vw [true,false,false,false] R),Th.ext (Dk.vw [true,false,false,false] X)=Th.ext (Dk.vw [true,false,false,false] X)],by kernel_rfl,(by refine mcons ?_ (mcons ?_ (mcons ?_ mnil))<;>first|rfl|exact h0|trivial|(exact congrArg _ h1)|(exact h2)|(exact ⟨h2.1,by have:=h2.2;show i.toNat<X.length;omega⟩)|(exact (congrArg (! ·) h3:_))|(have h:=h3;unfold sameI at h;exact congrArg (! ·) h)|(simp only [sameI] at h3;exact congrArg (! ·) h3))⟩
set_option maxRecDepth 100000 in
theorem rsame_r (R X:List Rw) (i i2:Int) (k:Nat) (f:Nat→Value) (h0:decide (i<(R.length:Int))=true) (h1:IntKind.i64.wrap (i+1)=i2) (h2:0≤i∧i.toNat<R.length) (h3:sameI R X i=false) (h4:R.length=X.length):∃ qs,alR Id' 2 [(4,.c (.one (.kB false)))] [⟨.us (.ext (.vw [true,false,false,false] R)),false⟩,⟨.us (.ext (.vw [true,false,false,false] X)),false⟩] ((symC (⟨Try.prog,[],[E_of Try.prog 109],dkHo,Id'.one,60⟩:Sy Td) [] 26 (hdC (loopsC (bodyOf Try.f63)) 0) ⟨[(5,.c (.one (.v (.int .i64 i))))]++anyB' (writesC (hdC (loopsC (bodyOf Try.f63)) 0)) ([(0,.c (.one (.obj 0))),(1,.c (.one (.obj 1)))]++tabV f 26),[⟨.us (.ext (.vw [true,false,false,false] R)),false⟩,⟨.us (.ext (.vw [true,false,false,false] X)),false⟩],0⟩).al [true,true])=some qs∧∀ q∈qs,q:=
 ⟨[decide (i<(↑R.length:Int))=true,(0:Int)≤i∧i.toNat<X.length,(0:Int)≤i∧i.toNat<R.length,(!((R.getD i.toNat Rw.zero).ss.getD (0:Nat) (ByteArray.mk #[])==(X.getD i.toNat Rw.zero).ss.getD (0:Nat) (ByteArray.mk #[])&&((R.getD i.toNat Rw.zero).is.getD (0:Nat) (0:Int)==(X.getD i.toNat Rw.zero).is.getD (0:Nat) (0:Int)&&((R.getD i.toNat Rw.zero).is.getD ((0:Nat)+(1:Nat)) (0:Int)==(X.getD i.toNat Rw.zero).is.getD ((0:Nat)+(1:Nat)) (0:Int)&&true)&&((R.getD i.toNat Rw.zero).is.getD ((0:Nat)+(1:Nat)+(1:Nat)) (0:Int)==(X.getD i.toNat Rw.zero).is.getD ((0:Nat)+(1:Nat)+(1:Nat)) (0:Int)&&true))))=true,Th.ext (Dk.vw [true,false,false,false] R)=Th.ext (Dk.vw [true,false,false,false] R),Th.ext (Dk.vw [true,false,false,false] X)=Th.ext (Dk.vw [true,false,false,false] X),Value.bool false=Value.bool false],by kernel_rfl,(by refine mcons ?_ (mcons ?_ (mcons ?_ (mcons ?_ (mcons ?_ (mcons ?_ (mcons ?_ mnil))))))<;>first|rfl|exact h0|exact h1|exact h2|exact h3|exact h4|trivial|(exact congrArg _ h1)|(exact h2)|(exact ⟨h2.1,by have:=h2.2;show i.toNat<X.length;omega⟩)|(exact (congrArg (! ·) h3:_))|(have h:=h3;unfold sameI at h;exact congrArg (! ·) h)|(simp only [sameI] at h3;exact congrArg (! ·) h3))⟩
set_option maxRecDepth 100000 in
theorem rsame_lpA (R X:List Rw) (hL:R.length≤100000) (x0:R.length=X.length) (hall:∀ i:Int,0≤i→i.toNat<R.length→sameI R X i=true) {W0:World} {G:Nat→Prop} (S0:Sy Td) (hS0:S0.P=Try.prog):LoopSound S0 Id' W0 G 26 (hdC (loopsC (bodyOf Try.f63)) 0) (lpG Id' 26 (hdC (loopsC (bodyOf Try.f63)) 0) 2 [(5,.c (.one (.v (.int .i64 ((0+0:Nat):Int)))))] [(0,.c (.one (.obj 0))),(1,.c (.one (.obj 1)))] [⟨.us (.ext (.vw [true,false,false,false] R)),false⟩,⟨.us (.ext (.vw [true,false,false,false] X)),false⟩] (.leaf (.exit 0) [] [⟨.us (.ext (.vw [true,false,false,false] R)),false⟩,⟨.us (.ext (.vw [true,false,false,false] X)),false⟩])):=by
 refine lp_sound (V:=fun k=>[(5,.c (.one (.v (.int .i64 ((k+0:Nat):Int)))))]) (M:=(fun k=>[⟨.us (.ext (.vw [true,false,false,false] R)),false⟩,⟨.us (.ext (.vw [true,false,false,false] X)),false⟩]:Nat→Mem Td)) (N:=R.length) (Ux:=fun k x=>match x with|.exit 0=>some ([],([⟨.us (.ext (.vw [true,false,false,false] R)),false⟩,⟨.us (.ext (.vw [true,false,false,false] X)),false⟩]:Mem Td))|_=>none) (X:=fun _ _=>True) (J:=fun k=>True) (fun k=>by kernel_rfl) trivial (fun k hk hJ f=>?_) (fun K hK k x U hk hU hX=>?_)
 ·rw [hS0]
  cases hT:decide (((k+0:Nat):Int)<(R.length:Int)) with
  |false=>
   exact rnd_xD (⟨Try.prog,[],[E_of Try.prog 109],dkHo,Id'.one,60⟩:Sy Td) rfl ((fun (W0:World) (G:Nat→Prop)=>SyOk.mk2 Try.mixed dkHo_ok (FnsR.nil) (E_of_ok (by kernel_rfl) (EqsOk.nil))) W0 G) (rsame_x R X ((k+0:Nat):Int) ((k+1+0:Nat):Int) k f hT) rfl trivial
  |true=>
   have hk1:=of_decide_eq_true hT
   have hW:IntKind.i64.wrap (((k+0:Nat):Int)+1)=((k+1+0:Nat):Int):=by rw [IntWalk.i64_in _ (by omega)];omega
   exact rnd_nD (⟨Try.prog,[],[E_of Try.prog 109],dkHo,Id'.one,60⟩:Sy Td) rfl ((fun (W0:World) (G:Nat→Prop)=>SyOk.mk2 Try.mixed dkHo_ok (FnsR.nil) (E_of_ok (by kernel_rfl) (EqsOk.nil))) W0 G) (rsame_n R X ((k+0:Nat):Int) ((k+1+0:Nat):Int) k f hT hW (by omega) (hall _ (by omega) (by omega)) x0) rfl rfl (by omega) trivial
 ·revert hU
  match x with
  |.exit 0=>intro hU;simp only [Option.some.injEq] at hU;subst hU;exact hK
  |.normal=>intro hU;cases hU
  |.ret=>intro hU;cases hU
  |.exit (n+1)=>intro hU;cases hU
set_option maxRecDepth 100000 in
theorem rsame_lpR (R X:List Rw) (hL:R.length≤100000) (x0:R.length=X.length) (hex:∃ i:Int,0≤i∧i.toNat<R.length∧sameI R X i=false) {W0:World} {G:Nat→Prop} (S0:Sy Td) (hS0:S0.P=Try.prog):LoopSound S0 Id' W0 G 26 (hdC (loopsC (bodyOf Try.f63)) 0) (lpG Id' 26 (hdC (loopsC (bodyOf Try.f63)) 0) 2 [(5,.c (.one (.v (.int .i64 ((0+0:Nat):Int)))))] [(0,.c (.one (.obj 0))),(1,.c (.one (.obj 1)))] [⟨.us (.ext (.vw [true,false,false,false] R)),false⟩,⟨.us (.ext (.vw [true,false,false,false] X)),false⟩] (.leaf .ret [(4,.c (.one (.kB false)))] [⟨.us (.ext (.vw [true,false,false,false] R)),false⟩,⟨.us (.ext (.vw [true,false,false,false] X)),false⟩])):=by
 refine lp_sound (V:=fun k=>[(5,.c (.one (.v (.int .i64 ((k+0:Nat):Int)))))]) (M:=(fun k=>[⟨.us (.ext (.vw [true,false,false,false] R)),false⟩,⟨.us (.ext (.vw [true,false,false,false] X)),false⟩]:Nat→Mem Td)) (N:=R.length) (Ux:=fun k x=>match x with|.ret=>some ([(4,.c (.one (.kB false)))],([⟨.us (.ext (.vw [true,false,false,false] R)),false⟩,⟨.us (.ext (.vw [true,false,false,false] X)),false⟩]:Mem Td))|_=>none) (X:=fun _ _=>True) (J:=fun k=>∀ i:Int,0≤i→i<((k+0:Nat):Int)→sameI R X i=true) (fun k=>by kernel_rfl) (fun i h0 h1=>by omega) (fun k hk hJ f=>?_) (fun K hK k x U hk hU hX=>?_)
 ·rw [hS0]
  cases hT:decide (((k+0:Nat):Int)<(R.length:Int)) with
  |false=>
   obtain ⟨j,j0,j1,j2⟩:=hex
   have:=of_decide_eq_false hT
   rw [hJ j j0 (by omega)] at j2
   cases j2
  |true=>
   have hk1:=of_decide_eq_true hT
   have hW:IntKind.i64.wrap (((k+0:Nat):Int)+1)=((k+1+0:Nat):Int):=by rw [IntWalk.i64_in _ (by omega)];omega
   cases hq:sameI R X ((k+0:Nat):Int) with
   |true=>exact rnd_nD (⟨Try.prog,[],[E_of Try.prog 109],dkHo,Id'.one,60⟩:Sy Td) rfl ((fun (W0:World) (G:Nat→Prop)=>SyOk.mk2 Try.mixed dkHo_ok (FnsR.nil) (E_of_ok (by kernel_rfl) (EqsOk.nil))) W0 G) (rsame_n R X ((k+0:Nat):Int) ((k+1+0:Nat):Int) k f hT hW (by omega) hq x0) rfl rfl (by omega) (fun i h0 h1=>by
     by_cases he:i=((k+0:Nat):Int)
     ·subst he;exact hq
     ·exact hJ i h0 (by omega))
   |false=>exact rnd_rD (⟨Try.prog,[],[E_of Try.prog 109],dkHo,Id'.one,60⟩:Sy Td) rfl ((fun (W0:World) (G:Nat→Prop)=>SyOk.mk2 Try.mixed dkHo_ok (FnsR.nil) (E_of_ok (by kernel_rfl) (EqsOk.nil))) W0 G) (rsame_r R X ((k+0:Nat):Int) ((k+1+0:Nat):Int) k f hT hW (by omega) hq x0) rfl trivial
 ·revert hU
  match x with
  |.ret=>intro hU;simp only [Option.some.injEq] at hU;subst hU;exact hK
  |.normal=>intro hU;cases hU
  |.exit n=>intro hU;cases hU
set_option maxRecDepth 100000 in
theorem rsameD_w0 (R X:List Rw) (h0:(!decide ((R.length:Int)=(X.length:Int)))=true):∃ qs,wayO Id' ([⟨.us (.ext (.vw [true,false,false,false] R)),false⟩,⟨.us (.ext (.vw [true,false,false,false] X)),false⟩]:Mem Td).length [⟨.us (.ext (.vw [true,false,false,false] R)),false⟩,⟨.us (.ext (.vw [true,false,false,false] X)),false⟩] (svV (.bool false)) ((runFn (⟨Try.prog,[],[E_of Try.prog 109],dkHo,Id'.one,60⟩:Sy Td) [] Try.f63 [.one (.obj 0),.one (.obj 1)] [⟨.us (.ext (.vw [true,false,false,false] R)),false⟩,⟨.us (.ext (.vw [true,false,false,false] X)),false⟩]).al [true])=some qs∧∀ q∈qs,q:=
 ⟨[((↑R.length:Int) != (↑X.length:Int))=true,Th.ext (Dk.vw [true,false,false,false] R)=Th.ext (Dk.vw [true,false,false,false] R),Th.ext (Dk.vw [true,false,false,false] X)=Th.ext (Dk.vw [true,false,false,false] X),Value.bool false=Value.bool false],by kernel_rfl,(by refine mcons ?_ (mcons ?_ (mcons ?_ (mcons ?_ mnil)))<;>first|rfl|exact h0|trivial)⟩
set_option maxRecDepth 100000 in
theorem rsameA_w0 (R X:List Rw) (h0:(!decide ((R.length:Int)=(X.length:Int)))=false):∃ qs,wayO Id' ([⟨.us (.ext (.vw [true,false,false,false] R)),false⟩,⟨.us (.ext (.vw [true,false,false,false] X)),false⟩]:Mem Td).length [⟨.us (.ext (.vw [true,false,false,false] R)),false⟩,⟨.us (.ext (.vw [true,false,false,false] X)),false⟩] (svV (.bool true)) ((runFn (⟨Try.prog,[],[E_of Try.prog 109],dkHo,Id'.one,60⟩:Sy Td) [(4,(lpG Id' 26 (hdC (loopsC (bodyOf Try.f63)) 0) 2 [(5,.c (.one (.v (.int .i64 ((0+0:Nat):Int)))))] [(0,.c (.one (.obj 0))),(1,.c (.one (.obj 1)))] [⟨.us (.ext (.vw [true,false,false,false] R)),false⟩,⟨.us (.ext (.vw [true,false,false,false] X)),false⟩] (.leaf (.exit 0) [] [⟨.us (.ext (.vw [true,false,false,false] R)),false⟩,⟨.us (.ext (.vw [true,false,false,false] X)),false⟩])))] Try.f63 [.one (.obj 0),.one (.obj 1)] [⟨.us (.ext (.vw [true,false,false,false] R)),false⟩,⟨.us (.ext (.vw [true,false,false,false] X)),false⟩]).al [false])=some qs∧∀ q∈qs,q:=
 ⟨[((↑R.length:Int) != (↑X.length:Int))=false,Th.ext (Dk.vw [true,false,false,false] R)=Th.ext (Dk.vw [true,false,false,false] R),Th.ext (Dk.vw [true,false,false,false] X)=Th.ext (Dk.vw [true,false,false,false] X),Value.int IntKind.i64 (Int.ofNat 0)=Value.int IntKind.i64 (Int.ofNat ((0:Nat)+(0:Nat))),Th.ext (Dk.vw [true,false,false,false] R)=Th.ext (Dk.vw [true,false,false,false] R),Th.ext (Dk.vw [true,false,false,false] X)=Th.ext (Dk.vw [true,false,false,false] X),Value.bool true=Value.bool true],by kernel_rfl,(by refine mcons ?_ (mcons ?_ (mcons ?_ (mcons ?_ (mcons ?_ (mcons ?_ (mcons ?_ mnil))))))<;>first|rfl|exact h0|trivial)⟩
set_option maxRecDepth 100000 in
theorem rsameR_w0 (R X:List Rw) (h0:(!decide ((R.length:Int)=(X.length:Int)))=false):∃ qs,wayO Id' ([⟨.us (.ext (.vw [true,false,false,false] R)),false⟩,⟨.us (.ext (.vw [true,false,false,false] X)),false⟩]:Mem Td).length [⟨.us (.ext (.vw [true,false,false,false] R)),false⟩,⟨.us (.ext (.vw [true,false,false,false] X)),false⟩] (svV (.bool false)) ((runFn (⟨Try.prog,[],[E_of Try.prog 109],dkHo,Id'.one,60⟩:Sy Td) [(4,(lpG Id' 26 (hdC (loopsC (bodyOf Try.f63)) 0) 2 [(5,.c (.one (.v (.int .i64 ((0+0:Nat):Int)))))] [(0,.c (.one (.obj 0))),(1,.c (.one (.obj 1)))] [⟨.us (.ext (.vw [true,false,false,false] R)),false⟩,⟨.us (.ext (.vw [true,false,false,false] X)),false⟩] (.leaf .ret [(4,.c (.one (.kB false)))] [⟨.us (.ext (.vw [true,false,false,false] R)),false⟩,⟨.us (.ext (.vw [true,false,false,false] X)),false⟩])))] Try.f63 [.one (.obj 0),.one (.obj 1)] [⟨.us (.ext (.vw [true,false,false,false] R)),false⟩,⟨.us (.ext (.vw [true,false,false,false] X)),false⟩]).al [false])=some qs∧∀ q∈qs,q:=
 ⟨[((↑R.length:Int) != (↑X.length:Int))=false,Th.ext (Dk.vw [true,false,false,false] R)=Th.ext (Dk.vw [true,false,false,false] R),Th.ext (Dk.vw [true,false,false,false] X)=Th.ext (Dk.vw [true,false,false,false] X),Value.int IntKind.i64 (Int.ofNat 0)=Value.int IntKind.i64 (Int.ofNat ((0:Nat)+(0:Nat))),Th.ext (Dk.vw [true,false,false,false] R)=Th.ext (Dk.vw [true,false,false,false] R),Th.ext (Dk.vw [true,false,false,false] X)=Th.ext (Dk.vw [true,false,false,false] X),Value.bool false=Value.bool false],by kernel_rfl,(by refine mcons ?_ (mcons ?_ (mcons ?_ (mcons ?_ (mcons ?_ (mcons ?_ (mcons ?_ mnil))))))<;>first|rfl|exact h0|trivial)⟩
def C_rsame:Ctr Td:=fun us sub=>match us,sub with
 |[.one (.obj 0),.one (.obj 1)],[⟨.us (.ext (.vw [true,false,false,false] R)),false⟩,⟨.us (.ext (.vw [true,false,false,false] X)),false⟩]=>some ([R.length≤100000],svV (.bool (sameR R X)),[⟨.us (.ext (.vw [true,false,false,false] R)),false⟩,⟨.us (.ext (.vw [true,false,false,false] X)),false⟩])
 |_,_=>none
set_option maxRecDepth 100000 in
theorem C_rsame_ok:CtrOk Try.prog Id' 63 C_rsame:=by
 intro us sub ps x sm h hp w e vs hM ha
 unfold C_rsame at h
 split at h
 ·rename_i R X
  simp only [Option.some.injEq,Prod.mk.injEq] at h
  obtain ⟨rfl,rfl,rfl⟩:=h
  have hL:R.length≤100000:=hp _ (List.mem_cons_self ..)
  cases hq:(!decide ((R.length:Int)=(X.length:Int))) with
  |true=>
   have hv:sameR R X=false:=by
    unfold sameR
    rw [show decide ((R.length:Int)=(X.length:Int))=false by simpa using hq];rfl
   rw [hv]
   exact ctr_way (I:=Id') (fun (W0:World) (G:Nat→Prop)=>SyOk.mk2 Try.mixed dkHo_ok (FnsR.nil) (E_of_ok (by kernel_rfl) (EqsOk.nil))) rfl Try.func63 (by kernel_rfl) (fun _ _=>LpsOk.nil _) (cs:=[true]) (by kernel_rfl) (rsameD_w0 R X hq) w e vs hM ha
  |false=>
   have hd:decide ((R.length:Int)=(X.length:Int))=true:=by simpa using hq
   have hl:R.length=X.length:=by have:=of_decide_eq_true hd;omega
   rcases allI_cases 0 R.length (sameI R X) with ⟨ha0,hall⟩|⟨ha0,hex⟩
   ·have hv:sameR R X=true:=by unfold sameR;rw [hd,ha0];rfl
    rw [hv]
    exact ctr_way (I:=Id') (fun (W0:World) (G:Nat→Prop)=>SyOk.mk2 Try.mixed dkHo_ok (FnsR.nil) (E_of_ok (by kernel_rfl) (EqsOk.nil))) rfl Try.func63 (by kernel_rfl) (fun _ _=>LpsOk.cons (by kernel_rfl) (rsame_lpA R X hL hl hall _ rfl) (LpsOk.nil _)) (cs:=[false]) (by kernel_rfl) (rsameA_w0 R X hq) w e vs hM ha
   ·have hv:sameR R X=false:=by unfold sameR;rw [hd,ha0];rfl
    rw [hv]
    exact ctr_way (I:=Id') (fun (W0:World) (G:Nat→Prop)=>SyOk.mk2 Try.mixed dkHo_ok (FnsR.nil) (E_of_ok (by kernel_rfl) (EqsOk.nil))) rfl Try.func63 (by kernel_rfl) (fun _ _=>LpsOk.cons (by kernel_rfl) (rsame_lpR R X hL hl hex _ rfl) (LpsOk.nil _)) (cs:=[false]) (by kernel_rfl) (rsameR_w0 R X hq) w e vs hM ha
 ·cases h
theorem R_rsame:RowOk Try.prog Id' hardD 63 (ctrF Id' C_rsame hardD):=ctrF_ok Try.call63 C_rsame_ok
theorem RW_rsame:RowOk Try.prog Id' hardD 63 (ctrF Id' (wkC C_rsame) hardD):=ctrF_ok Try.call63 (wkC_ok C_rsame_ok)
end Go.Proofs.Ytdenmoiaiemokaa
set_option linter.unusedVariables false
set_option linter.unusedSimpArgs false
namespace Go.Proofs.Ytdenmoiaiemokaa
open Go.RowKit
def byteAt (s:ByteArray) (k:Nat):UInt8:=s.data.toList.getD k 0
def badB (x:UInt8):Bool:=decide ((x.toNat:Int)≤32)||decide ((x.toNat:Int)≥127)||(x.toNat:Int)==47
def goodsB (s:ByteArray):Bool:=s.data.toList.all fun x=>!badB x
def nameB (s:ByteArray):Bool:=goodsB s&&(decide ((s.size:Int)>0)&&decide ((s.size:Int)<17)&&(!(s.toList==(⟨#[46]⟩:ByteArray).toList))&&(!(s.toList==(⟨#[46,46]⟩:ByteArray).toList)))
theorem goods_bad {s:ByteArray} {k:Nat} (h:k<s.size) (hb:badB (byteAt s k)=true):goodsB s=false:=by
 unfold goodsB
 rw [List.all_eq_false]
 have hk:k<s.data.toList.length:=by simpa using h
 exact ⟨s.data.toList[k],List.getElem_mem hk,by simpa [byteAt,List.getD,List.getElem?_eq_getElem hk] using hb⟩
theorem goods_all {s:ByteArray} (h:∀ k,k<s.size→badB (byteAt s k)=false):goodsB s=true:=by
 unfold goodsB
 rw [List.all_eq_true]
 intro x hx
 obtain ⟨k,hk,rfl⟩:=List.getElem_of_mem hx
 have:=h k (by simpa using hk)
 simpa [byteAt,List.getD,List.getElem?_eq_getElem hk] using this
def oddB (x:Int):Bool:=decide (x<33)||decide (x>126)||x==47
def C_nis:Ctr Td:=fun us sub=>match us,sub with
 |[.one (.v (.string s))],[]=>some ([s.size≤100000],svV (.bool (nameB s)),[])
 |_,_=>none
set_option maxRecDepth 100000 in
theorem odd_w0 (x:Int) :∃ qs,wayO Id' (([]:Mem Td):Mem Td).length [] (svV (.bool (oddB x))) ((runFn (⟨Try.prog,[],[],dkHo,Id'.one,60⟩:Sy Td) [] Try.f174 [.one (.v (.int .i32 x))] ([]:Mem Td)).al [])=some qs∧∀ q∈qs,q:=
 ⟨[Value.bool (decide (x<(33:Int))||decide (x>(126:Int))||x==(47:Int))=Value.bool (oddB x)],by kernel_rfl,(by refine mcons ?_ mnil<;>first|rfl|trivial)⟩
def C_odd:Ctr Td:=fun us sub=>match us,sub with
 |[.one (.v (.int .i32 x))],[]=>some ([],svV (.bool (oddB x)),[])
 |_,_=>none
set_option maxRecDepth 100000 in
theorem C_odd_ok:CtrOk Try.prog Id' 174 C_odd:=by
 intro us sub ps x sm h hp w e vs hM ha
 unfold C_odd at h
 split at h
 ·rename_i x
  simp only [Option.some.injEq,Prod.mk.injEq] at h
  obtain ⟨rfl,rfl,rfl⟩:=h
  exact ctr_way (I:=Id') (fun (W0:World) (G:Nat→Prop)=>SyOk.mk2 Try.mixed dkHo_ok (FnsR.nil) EqsOk.nil) rfl Try.func174 (by kernel_rfl) (fun _ _=>LpsOk.nil _) (cs:=[]) (by kernel_rfl) (odd_w0 x ) w e vs hM ha
 ·cases h
theorem odd_c (x:Int) (W:World):Calls Try.prog 174 #[.int .i32 x] W fun e w'=>e=.returned (.bool (oddB x))∧Ext W w':=by
 refine (C_odd_ok [.one (.v (.int .i32 x))] [] _ _ _ rfl (fun p hp=>by cases hp) W [] [.int .i32 x] (args_nil Id' W) ⟨rfl,trivial⟩).mono fun y w' ⟨u,e',h1,_,h2,h3⟩=>⟨h1.trans (congrArg _ h2),?_⟩
 exact h3.mod.mono fun k _ hk=>by
  obtain ⟨i,_,n,_,hn,hmu,_⟩:=footE.1 hk
  cases i<;>simp at hn
end Go.Proofs.Ytdenmoiaiemokaa
set_option linter.unusedVariables false
set_option linter.unusedSimpArgs false
namespace Go.Proofs.Ytdenmoiaiemokaa
open Go.RowKit
theorem iter_ext {W w:World} {k:Nat} {s:ByteArray} {pos:Nat} (h:Ext W w) (hk:W.heap.size≤k):Ext W (w.iterAt k s pos):=
 Mod.trans (G:=fun i=>i=k) h ⟨rfl,rfl,rfl,by simp [World.iterAt],fun i _ hn=>by
  show (w.heap.setIfInBounds k _)[i]? =_
  rw [Array.getElem?_setIfInBounds_ne (fun e=>hn e.symm)]⟩ (fun i hi hl=>by subst hi;omega)
theorem byteAt_get {s:ByteArray} {k:Nat} (h:k<s.size):byteAt s k=s[k]:=by
 have hk:k<s.data.toList.length:=by simpa using h
 simp [byteAt,List.getD,List.getElem?_eq_getElem hk,ByteArray.getElem_eq_getElem_data]
theorem odd_low (x:UInt8):oddB (x.toNat:Int)=badB x:=by
 rw [Bool.eq_iff_iff]
 simp [badB,oddB]
 omega
theorem odd_high {x:Nat} (h:128≤x):oddB (x:Int)=true:=by
 simp [oddB]
 omega
theorem odd_rune {s:ByteArray} {pos:Nat} (h:pos<s.size):oddB ((Utf8.decode s pos).1:Int)=badB (byteAt s pos)∧(badB (byteAt s pos)=false→(Utf8.decode s pos).2=1):=by
 rw [byteAt_get h]
 by_cases ha:s[pos].toNat<128
 ·rw [decode_ascii s pos h ha]
  exact ⟨odd_low _,fun _=>rfl⟩
 ·obtain ⟨h1,_⟩:=decode_high s pos h (by omega)
  have hb:badB s[pos]=true:=by simp [badB];omega
  rw [hb]
  exact ⟨odd_high h1,fun h=>by cases h⟩
theorem byteArray_len (s:ByteArray):s.toList.length=s.size:=by rw [ByteArray.toList_eq];simp
theorem iterPos_at {w:World} {k pos:Nat} {s:ByteArray} (h:w.heap[k]? =some (.stringIter s pos)):w.iterPos k=pos:=by simp [World.iterPos,h]
theorem iter_ext0 (w:World) (s:ByteArray) (pos:Nat):Ext w (w.iter s pos):=by
 exact (Ext.refl w).alloc _
set_option maxRecDepth 100000 in
set_option maxHeartbeats 1000000 in
theorem check_loop (s:ByteArray) (w:World) (h1:0<s.size) (h2:s.size≤16) (h3:(s.toList==[46])=false) (h4:(s.toList==[46,46])=false):
  Calls Try.prog 154 #[.string s] w fun e w'=>e=.returned (.int .i64 (cond (goodsB s) 0 9))∧Ext w w':=by
 have h5:s.toList.isEmpty=false:=by
  cases h:s.toList with
  |nil=>have:=byteArray_len s;rw [h] at this;simp at this;omega
  |cons a l=>rfl
 have h6:decide ((16:Int)<(s.size:Int))=false:=by simp;omega
 obtain ⟨R,hR⟩:∃ R,R=cond (goodsB s) (0:Int) 9:=⟨_,rfl⟩
 rw [← hR]
 have HR:=Lib.hid hR
 clear hR
 have H1:=Lib.hid h1
 clear h1
 go_enter Try.func154,Try.ntmps154
 go_wp2_with fail
 clear h3 h4 h5 h6
 obtain ⟨k0,hk0⟩:∃ k,k=w.heap.size:=⟨_,rfl⟩
 obtain ⟨w1,hw1⟩:∃ x,x=w.iter s 0:=⟨_,rfl⟩
 have HI:=Lib.hid (show w1.heap[k0]? =some (.stringIter s 0) by rw [hw1,hk0];exact blk_new w _)
 have HX:=Lib.hid (show Ext w w1 by rw [hw1];exact iter_ext0 w s 0)
 have HK:=Lib.hid (show w.heap.size≤k0 by rw [hk0];exact Nat.le_refl _)
 rw [← hw1,←hk0]
 clear hw1 hk0
 go_loopw [4] (fun _ w'=>∃ pos:Nat,Hid (w'.heap[k0]? =some (.stringIter s pos))∧Hid (Ext w w')∧Hid (∀ j,j<pos→badB (byteAt s j)=false)) (fun _ w'=>s.size - w'.iterPos k0)
 case atStart=>exact ⟨0,HI,HX,Lib.hid fun j hj=>absurd hj (by omega)⟩
 case round=>
  clear HI HX
  rename_i wr
  obtain ⟨pos,HI,HX,HJ⟩:=hrel
  by_cases hp:pos<s.size
  ·have hnx:∀ ty,(Instr.next (.pointer (some ⟨k0,0,none⟩)) true ty).run Try.prog wr=_:=fun ty=>Lib.run_next_any_at wr k0 s pos ty HI.out hp
   have HO:=Lib.hid (odd_rune hp)
   have HI2:=Lib.hid (Lib.iterAt_heap wr k0 s pos (pos+(Utf8.decode s pos).2) HI.out)
   have HX2:=Lib.hid (iter_ext (pos:=pos+(Utf8.decode s pos).2) HX.out HK.out:Ext w (wr.iterAt k0 s (pos+(Utf8.decode s pos).2)))
   have HM:=Lib.hid (iterPos_at HI.out)
   go_wp2_with fail
   refine (odd_c _ _).mono ?_
   rintro r w3 ⟨rfl,hx3⟩
   have HX3:=Lib.hid (HX2.out.trans hx3)
   have HI3:=Lib.hid ((hx3.block k0 (Array.getElem?_eq_some_iff.1 HI2.out).1 id).trans HI2.out)
   clear hx3 hnx
   cases hb:badB (byteAt s pos) with
   |true=>
    have ho:oddB ((Utf8.decode s pos).1:Int)=true:=HO.out.1.trans hb
    have hg:R=9:=by rw [HR.out,goods_bad hp hb];rfl
    go_wp2_with fail
    go_ret
    exact ⟨by rw [hg];rfl,HX3.out⟩
   |false=>
    have ho:oddB ((Utf8.decode s pos).1:Int)=false:=HO.out.1.trans hb
    have HW:=Lib.hid (HO.out.2 hb)
    have HB:=Lib.hid hb
    clear hb
    go_wp2_with fail
    go_roundw
    case rel=>
     refine ⟨pos+1,by rw [HW.out] at HI3;exact HI3,HX3,Lib.hid fun j hj=>?_⟩
     rcases Nat.lt_succ_iff_lt_or_eq.1 hj with h|rfl
     ·exact HJ.out j h
     ·exact HB.out
    case measure=>
     have h1:=iterPos_at HI3.out
     have h2:=HM.out
     have h3:=HW.out
     omega
  ·have hnx:∀ ty,(Instr.next (.pointer (some ⟨k0,0,none⟩)) true ty).run Try.prog wr=_:=fun ty=>Lib.run_next_end_at wr k0 s pos ty HI.out hp
   have hg:R=0:=by rw [HR.out,goods_all fun j hj=>HJ.out j (by omega)];rfl
   go_wp2_with fail
   go_ret
   exact ⟨by rw [hg];rfl,HX.out⟩
set_option maxRecDepth 100000 in
set_option maxHeartbeats 1000000 in
theorem check_c (s:ByteArray) (w:World):Calls Try.prog 154 #[.string s] w fun e w'=>e=.returned (.int .i64 (cond (nameB s) 0 9))∧Ext w w':=by
 have e1:(⟨#[46]⟩:ByteArray).toList=[46]:=by rw [ByteArray.toList_eq]
 have e2:(⟨#[46,46]⟩:ByteArray).toList=[46,46]:=by rw [ByteArray.toList_eq]
 by_cases h1:0<s.size
 ·by_cases h2:s.size≤16
  ·cases h3:s.toList==[46] with
   |true=>
    have hn:nameB s=false:=by unfold nameB;rw [e1,h3];simp
    have h5:s.toList.isEmpty=false:=by rw [eq_of_beq h3];rfl
    have h6:decide ((16:Int)<(s.size:Int))=false:=by simp;omega
    rw [hn]
    clear hn e1 e2
    go_enter Try.func154,Try.ntmps154
    go_wp2_with fail
    go_ret
    exact ⟨rfl,Ext.refl w⟩
   |false=>
    cases h4:s.toList==[46,46] with
    |true=>
     have hn:nameB s=false:=by unfold nameB;rw [e2,h4];simp
     have h5:s.toList.isEmpty=false:=by rw [eq_of_beq h4];rfl
     have h6:decide ((16:Int)<(s.size:Int))=false:=by simp;omega
     rw [hn]
     clear hn e1 e2
     go_enter Try.func154,Try.ntmps154
     go_wp2_with fail
     go_ret
     exact ⟨rfl,Ext.refl w⟩
    |false=>
     have hn:nameB s=goodsB s:=by
      unfold nameB;rw [e1,e2,h3,h4]
      have a1:decide ((s.size:Int)>0)=true:=by simp;omega
      have a2:decide ((s.size:Int)<17)=true:=by simp;omega
      rw [a1,a2];simp
     rw [hn]
     exact check_loop s w h1 h2 h3 h4
  ·have hn:nameB s=false:=by
    unfold nameB
    have a2:decide ((s.size:Int)<17)=false:=by simp;omega
    rw [a2];simp
   have h6:decide ((16:Int)<(s.size:Int))=true:=by simp;omega
   have h5:s.toList.isEmpty=false:=by
    cases h:s.toList with
    |nil=>have:=byteArray_len s;rw [h] at this;simp at this;omega
    |cons a l=>rfl
   rw [hn]
   clear hn e1 e2
   go_enter Try.func154,Try.ntmps154
   go_wp2_with fail
   go_ret
   exact ⟨rfl,Ext.refl w⟩
 ·have hn:nameB s=false:=by
   unfold nameB
   have a1:decide ((s.size:Int)>0)=false:=decide_eq_false (by omega)
   rw [a1];simp
  have h5:s.toList=[]:=by
   have:=byteArray_len s
   exact List.eq_nil_of_length_eq_zero (by rw [byteArray_len s];omega)
  have h6:s.toList.isEmpty=true:=by rw [h5];rfl
  rw [hn]
  clear hn e1 e2
  go_enter Try.func154,Try.ntmps154
  go_wp2_with fail
  go_ret
  exact ⟨rfl,Ext.refl w⟩
def F_nmck:Nat×Fn2 Td:=(154,vfn fun us=>match us with|[.string s]=>some ([],.int .i64 (cond (nameB s) 0 9))|_=>none)
theorem F_nmck_ok:RowOk Try.prog Id' hardD F_nmck.1 F_nmck.2:=by
 refine vfn_ok Try.call154 fun args ps r hs hp w=>?_
 split at hs
 ·simp only [Option.some.injEq,Prod.mk.injEq] at hs
  obtain ⟨rfl,rfl⟩:=hs
  exact (check_c _ w).mono fun x w' ⟨h1,h2⟩=>⟨h1,h2⟩
 ·cases hs
end Go.Proofs.Ytdenmoiaiemokaa
set_option linter.unusedVariables false
set_option linter.unusedSimpArgs false
namespace Go.Proofs.Ytdenmoiaiemokaa
open Go.RowKit
def isE (nm:ByteArray) (a b c:Int):Bool:=nameB nm&&decide (a>0)&&decide (a<41)&&decide (b≥0)&&decide (b<2147483648)&&decide (c>0)&&decide (c<3)
def C_ris:Ctr Td:=fun us sub=>match us,sub with
 |[.agg [.v (.string nm),.v (.int .i64 a),.v (.int .i64 b),.v (.int .i64 c)]],[]=>some ([nm.size≤100000],svV (.bool (isE nm a b c)),[⟨.dead,true⟩])
 |_,_=>none
set_option maxRecDepth 100000 in
theorem dright_w0 (nm:ByteArray) (a b c:Int) (r:Bool) (h0:((bif nameB nm then (0:Int) else (9:Int))==(0:Int)&&decide (a≥(1:Int))&&decide (a≤(40:Int))&&decide (b≥(0:Int))&&decide (b≤(2147483647:Int))&&(c==(1:Int)||c==(2:Int)))=r):∃ qs,wayO Id' (([]:Mem Td):Mem Td).length [⟨.dead,true⟩] (svV (.bool r)) ((runFn (⟨Try.prog,[F_nmck],[],dkHo,Id'.one,60⟩:Sy Td) [] Try.f118 [.agg [.v (.string nm),.v (.int .i64 a),.v (.int .i64 b),.v (.int .i64 c)]] ([]:Mem Td)).al [])=some qs∧∀ q∈qs,q:=
 ⟨[Value.bool ((bif nameB nm then (0:Int) else (9:Int))==(0:Int)&&decide (a≥(1:Int))&&decide (a≤(40:Int))&&decide (b≥(0:Int))&&decide (b≤(2147483647:Int))&&(c==(1:Int)||c==(2:Int)))=Value.bool r],by kernel_rfl,(by refine mcons ?_ mnil<;>first|rfl|exact h0|trivial|(exact congrArg _ h0))⟩
theorem right_is (nm:ByteArray) (a b c:Int):((bif nameB nm then (0:Int) else (9:Int))==(0:Int)&&decide (a≥(1:Int))&&decide (a≤(40:Int))&&decide (b≥(0:Int))&&decide (b≤(2147483647:Int))&&(c==(1:Int)||c==(2:Int)))=isE nm a b c:=by
 unfold isE
 rw [Bool.eq_iff_iff]
 cases nameB nm<;>simp<;>omega
def C_dright:Ctr Td:=fun us sub=>match us,sub with
 |[.agg [.v (.string nm),.v (.int .i64 a),.v (.int .i64 b),.v (.int .i64 c)]],[]=>some ([],svV (.bool (isE nm a b c)),[⟨.dead,true⟩])
 |_,_=>none
set_option maxRecDepth 100000 in
theorem C_dright_ok:CtrOk Try.prog Id' 118 C_dright:=by
 intro us sub ps x sm h hp w e vs hM ha
 unfold C_dright at h
 split at h
 ·rename_i nm a b c
  simp only [Option.some.injEq,Prod.mk.injEq] at h
  obtain ⟨rfl,rfl,rfl⟩:=h
  exact ctr_way (I:=Id') (fun (W0:World) (G:Nat→Prop)=>SyOk.mk2 Try.mixed dkHo_ok (FnsR.cons (F_nmck_ok) (FnsR.nil)) EqsOk.nil) rfl Try.func118 (by kernel_rfl) (fun _ _=>LpsOk.nil _) (cs:=[]) (by kernel_rfl) (dright_w0 nm a b c _ (right_is nm a b c)) w e vs hM ha
 ·cases h
theorem R_dright:RowOk Try.prog Id' hardD 118 (ctrF Id' C_dright hardD):=ctrF_ok Try.call118 C_dright_ok
end Go.Proofs.Ytdenmoiaiemokaa
set_option linter.unusedVariables false
set_option linter.unusedSimpArgs false
namespace Go.Proofs.Ytdenmoiaiemokaa
open Go.RowKit
set_option maxRecDepth 100000 in
theorem dbl1_w0 (nm:ByteArray) (a b c:Int) :∃ qs,wayO Id' (([]:Mem Td):Mem Td).length [⟨.dead,true⟩,⟨.dead,true⟩] (svV (.bool (!isE nm a b c))) ((runFn (⟨Try.prog,[(118,ctrF Id' C_dright hardD)],[],dkHo,Id'.one,60⟩:Sy Td) [] Try.f117 [.agg [.v (.string nm),.v (.int .i64 a),.v (.int .i64 b),.v (.int .i64 c)]] ([]:Mem Td)).al [])=some qs∧∀ q∈qs,q:=
 ⟨[(Value.bool !isE nm a b c)=Value.bool !isE nm a b c],by kernel_rfl,(by refine mcons ?_ mnil<;>first|rfl|trivial)⟩
def C_dbl1:Ctr Td:=fun us sub=>match us,sub with
 |[.agg [.v (.string nm),.v (.int .i64 a),.v (.int .i64 b),.v (.int .i64 c)]],[]=>some ([],svV (.bool (!isE nm a b c)),[⟨.dead,true⟩,⟨.dead,true⟩])
 |_,_=>none
set_option maxRecDepth 100000 in
theorem C_dbl1_ok:CtrOk Try.prog Id' 117 C_dbl1:=by
 intro us sub ps x sm h hp w e vs hM ha
 unfold C_dbl1 at h
 split at h
 ·rename_i nm a b c
  simp only [Option.some.injEq,Prod.mk.injEq] at h
  obtain ⟨rfl,rfl,rfl⟩:=h
  exact ctr_way (I:=Id') (fun (W0:World) (G:Nat→Prop)=>SyOk.mk2 Try.mixed dkHo_ok (FnsR.cons (R_dright) (FnsR.nil)) EqsOk.nil) rfl Try.func117 (by kernel_rfl) (fun _ _=>LpsOk.nil _) (cs:=[]) (by kernel_rfl) (dbl1_w0 nm a b c ) w e vs hM ha
 ·cases h
theorem R_dbl1:RowOk Try.prog Id' hardD 117 (ctrF Id' C_dbl1 hardD):=ctrF_ok Try.call117 C_dbl1_ok
def isR (r:Rw):Bool:=isE (r.ss.getD 0 ⟨#[]⟩) (r.is.getD 0 0) (r.is.getD 1 0) (r.is.getD 2 0)
def isI (R:List Rw) (i:Int):Bool:=isR (R.getD i.toNat Rw.zero)
end Go.Proofs.Ytdenmoiaiemokaa
