/- W15 W16 W17 W18 W19 W20 W21 W22 W23 W24 W25 W26 W27 W28 W29 W30 W31 W32 W33 W34. -/
import Derived.Test.YtdenmoiaiemokaaW14p
set_option linter.unusedVariables false
set_option linter.unusedSimpArgs false
namespace Go.Proofs.Ytdenmoiaiemokaa
open Go.RowKit
def riseI (R:List Rw) (i:Int):Bool:=Op.bytesLess (nmR R (IntKind.i64.wrap (i - 1))).toList (nmR R i).toList
def riseD (R:List Rw) (i:Int):Bool:=!(!isI R i||decide (i>0)&&(Op.bytesLess (nmR R i).toList (nmR R (IntKind.i64.wrap (i - 1))).toList||(nmR R i).toList==(nmR R (IntKind.i64.wrap (i - 1))).toList))
def NmsOk (R:List Rw):Prop:=∀ r∈R,(r.ss.getD 0 ⟨#[]⟩).size≤100000
theorem NmsOk.at {R:List Rw} (h:NmsOk R) (j:Nat):((R.getD j Rw.zero).ss.getD 0 ⟨#[]⟩).size≤100000:=by
 cases hj:R[j]? with
 |none=>rw [show R.getD j Rw.zero=Rw.zero by rw [List.getD_eq_getElem?_getD,hj];rfl];decide
 |some r=>rw [show R.getD j Rw.zero=r by rw [List.getD_eq_getElem?_getD,hj];rfl];exact h r (List.mem_of_getElem? hj)
theorem im1 {i:Int} {n:Nat} (h:1≤i) (hi:i.toNat<n) (hn:n≤100000):0≤IntKind.i64.wrap (i - 1)∧(IntKind.i64.wrap (i - 1)).toNat<n:=by
 rw [IntWalk.i64_in _ (by omega)];omega
set_option maxRecDepth 100000 in
theorem drise_n (R:List Rw) (i i2:Int) (k:Nat) (f:Nat→Value) (h0:decide (i<(R.length:Int))=true) (h1:IntKind.i64.wrap (i+1)=i2) (h2:1≤i∧i.toNat<R.length) (h3:riseI R (i)=true) (h4:R.length≤100000):∃ qs,alN Id' 1 [(3,.c (.one (.v (.int .i64 i2))))] [⟨.us (.ext (.vw [true,false,false,false] R)),false⟩] ((symC (⟨Try.prog,[],[],dkHo,Id'.one,60⟩:Sy Td) [] 22 (hdC (loopsC (bodyOf Try.f115)) 0) ⟨[(3,.c (.one (.v (.int .i64 i))))]++anyB' (writesC (hdC (loopsC (bodyOf Try.f115)) 0)) ([(0,.c (.one (.obj 0)))]++tabV f 22),[⟨.us (.ext (.vw [true,false,false,false] R)),false⟩],0⟩).al [true,false])=some qs∧∀ q∈qs,q:=
 ⟨[decide (i<(↑R.length:Int))=true,(0:Int)≤i∧i.toNat<R.length,(0:Int)≤IntKind.i64.wrap (i - (1:Int))∧(IntKind.i64.wrap (i - (1:Int))).toNat<R.length,(!Op.bytesLess ((R.getD (IntKind.i64.wrap (i - (1:Int))).toNat Rw.zero).ss.getD (0:Nat) (ByteArray.mk #[])).toList ((R.getD i.toNat Rw.zero).ss.getD (0:Nat) (ByteArray.mk #[])).toList)=false,Th.ext (Dk.vw [true,false,false,false] R)=Th.ext (Dk.vw [true,false,false,false] R),Value.int IntKind.i64 (IntKind.i64.wrap (i+(1:Int)))=Value.int IntKind.i64 i2],by kernel_rfl,(by refine mcons ?_ (mcons ?_ (mcons ?_ (mcons ?_ (mcons ?_ (mcons ?_ mnil)))))<;>first|rfl|exact h0|exact h1|exact h2|exact h3|exact h4|trivial|(exact congrArg _ h1)|(exact h2)|(exact ⟨Int.le_trans (by decide) h2.1,h2.2⟩)|(exact im1 h2.1 h2.2 h4)|(exact (congrArg (! ·) h3:_)))⟩
set_option maxRecDepth 100000 in
theorem drise_x (R:List Rw) (i i2:Int) (k:Nat) (f:Nat→Value) (h0:decide (i<(R.length:Int))=false):∃ qs,alX Id' 1 0 [] [⟨.us (.ext (.vw [true,false,false,false] R)),false⟩] ((symC (⟨Try.prog,[],[],dkHo,Id'.one,60⟩:Sy Td) [] 22 (hdC (loopsC (bodyOf Try.f115)) 0) ⟨[(3,.c (.one (.v (.int .i64 i))))]++anyB' (writesC (hdC (loopsC (bodyOf Try.f115)) 0)) ([(0,.c (.one (.obj 0)))]++tabV f 22),[⟨.us (.ext (.vw [true,false,false,false] R)),false⟩],0⟩).al [false])=some qs∧∀ q∈qs,q:=
 ⟨[decide (i<(↑R.length:Int))=false,Th.ext (Dk.vw [true,false,false,false] R)=Th.ext (Dk.vw [true,false,false,false] R)],by kernel_rfl,(by refine mcons ?_ (mcons ?_ mnil)<;>first|rfl|exact h0|trivial|(exact congrArg _ h1)|(exact h2)|(exact ⟨Int.le_trans (by decide) h2.1,h2.2⟩)|(exact im1 h2.1 h2.2 h4)|(exact (congrArg (! ·) h3:_)))⟩
set_option maxRecDepth 100000 in
theorem drise_r (R:List Rw) (i i2:Int) (k:Nat) (f:Nat→Value) (h0:decide (i<(R.length:Int))=true) (h1:IntKind.i64.wrap (i+1)=i2) (h2:1≤i∧i.toNat<R.length) (h3:riseI R (i)=false) (h4:R.length≤100000):∃ qs,alR Id' 1 [(2,.c (.one (.kB false)))] [⟨.us (.ext (.vw [true,false,false,false] R)),false⟩] ((symC (⟨Try.prog,[],[],dkHo,Id'.one,60⟩:Sy Td) [] 22 (hdC (loopsC (bodyOf Try.f115)) 0) ⟨[(3,.c (.one (.v (.int .i64 i))))]++anyB' (writesC (hdC (loopsC (bodyOf Try.f115)) 0)) ([(0,.c (.one (.obj 0)))]++tabV f 22),[⟨.us (.ext (.vw [true,false,false,false] R)),false⟩],0⟩).al [true,true])=some qs∧∀ q∈qs,q:=
 ⟨[decide (i<(↑R.length:Int))=true,(0:Int)≤i∧i.toNat<R.length,(0:Int)≤IntKind.i64.wrap (i - (1:Int))∧(IntKind.i64.wrap (i - (1:Int))).toNat<R.length,(!Op.bytesLess ((R.getD (IntKind.i64.wrap (i - (1:Int))).toNat Rw.zero).ss.getD (0:Nat) (ByteArray.mk #[])).toList ((R.getD i.toNat Rw.zero).ss.getD (0:Nat) (ByteArray.mk #[])).toList)=true,Th.ext (Dk.vw [true,false,false,false] R)=Th.ext (Dk.vw [true,false,false,false] R),Value.bool false=Value.bool false],by kernel_rfl,(by refine mcons ?_ (mcons ?_ (mcons ?_ (mcons ?_ (mcons ?_ (mcons ?_ mnil)))))<;>first|rfl|exact h0|exact h1|exact h2|exact h3|exact h4|trivial|(exact congrArg _ h1)|(exact h2)|(exact ⟨Int.le_trans (by decide) h2.1,h2.2⟩)|(exact im1 h2.1 h2.2 h4)|(exact (congrArg (! ·) h3:_)))⟩
set_option maxRecDepth 100000 in
theorem drise_lpA (R:List Rw) (hL:R.length≤100000) (x0:R.length≤100000) (hall:∀ i:Int,1≤i→i.toNat<R.length→riseI R (i)=true) {W0:World} {G:Nat→Prop} (S0:Sy Td) (hS0:S0.P=Try.prog):LoopSound S0 Id' W0 G 22 (hdC (loopsC (bodyOf Try.f115)) 0) (lpG Id' 22 (hdC (loopsC (bodyOf Try.f115)) 0) 1 [(3,.c (.one (.v (.int .i64 ((0+1:Nat):Int)))))] [(0,.c (.one (.obj 0)))] [⟨.us (.ext (.vw [true,false,false,false] R)),false⟩] (.leaf (.exit 0) [] [⟨.us (.ext (.vw [true,false,false,false] R)),false⟩])):=by
 refine lp_sound (V:=fun k=>[(3,.c (.one (.v (.int .i64 ((k+1:Nat):Int)))))]) (M:=(fun k=>[⟨.us (.ext (.vw [true,false,false,false] R)),false⟩]:Nat→Mem Td)) (N:=R.length) (Ux:=fun k x=>match x with|.exit 0=>some ([],([⟨.us (.ext (.vw [true,false,false,false] R)),false⟩]:Mem Td))|_=>none) (X:=fun _ _=>True) (J:=fun k=>True) (fun k=>by kernel_rfl) trivial (fun k hk hJ f=>?_) (fun K hK k x U hk hU hX=>?_)
 ·rw [hS0]
  cases hT:decide (((k+1:Nat):Int)<(R.length:Int)) with
  |false=>
   exact rnd_xD (⟨Try.prog,[],[],dkHo,Id'.one,60⟩:Sy Td) rfl ((fun (W0:World) (G:Nat→Prop)=>SyOk.mk2 Try.mixed dkHo_ok (FnsR.nil) EqsOk.nil) W0 G) (drise_x R ((k+1:Nat):Int) ((k+1+1:Nat):Int) k f hT) rfl trivial
  |true=>
   have hk1:=of_decide_eq_true hT
   have hW:IntKind.i64.wrap (((k+1:Nat):Int)+1)=((k+1+1:Nat):Int):=by rw [IntWalk.i64_in _ (by omega)];omega
   exact rnd_nD (⟨Try.prog,[],[],dkHo,Id'.one,60⟩:Sy Td) rfl ((fun (W0:World) (G:Nat→Prop)=>SyOk.mk2 Try.mixed dkHo_ok (FnsR.nil) EqsOk.nil) W0 G) (drise_n R ((k+1:Nat):Int) ((k+1+1:Nat):Int) k f hT hW (by omega) (hall _ (by omega) (by omega)) x0) rfl rfl (by omega) trivial
 ·revert hU
  match x with
  |.exit 0=>intro hU;simp only [Option.some.injEq] at hU;subst hU;exact hK
  |.normal=>intro hU;cases hU
  |.ret=>intro hU;cases hU
  |.exit (n+1)=>intro hU;cases hU
set_option maxRecDepth 100000 in
theorem drise_lpR (R:List Rw) (hL:R.length≤100000) (x0:R.length≤100000) (hex:∃ i:Int,1≤i∧i.toNat<R.length∧riseI R (i)=false) {W0:World} {G:Nat→Prop} (S0:Sy Td) (hS0:S0.P=Try.prog):LoopSound S0 Id' W0 G 22 (hdC (loopsC (bodyOf Try.f115)) 0) (lpG Id' 22 (hdC (loopsC (bodyOf Try.f115)) 0) 1 [(3,.c (.one (.v (.int .i64 ((0+1:Nat):Int)))))] [(0,.c (.one (.obj 0)))] [⟨.us (.ext (.vw [true,false,false,false] R)),false⟩] (.leaf .ret [(2,.c (.one (.kB false)))] [⟨.us (.ext (.vw [true,false,false,false] R)),false⟩])):=by
 refine lp_sound (V:=fun k=>[(3,.c (.one (.v (.int .i64 ((k+1:Nat):Int)))))]) (M:=(fun k=>[⟨.us (.ext (.vw [true,false,false,false] R)),false⟩]:Nat→Mem Td)) (N:=R.length) (Ux:=fun k x=>match x with|.ret=>some ([(2,.c (.one (.kB false)))],([⟨.us (.ext (.vw [true,false,false,false] R)),false⟩]:Mem Td))|_=>none) (X:=fun _ _=>True) (J:=fun k=>∀ i:Int,1≤i→i<((k+1:Nat):Int)→riseI R (i)=true) (fun k=>by kernel_rfl) (fun i h0 h1=>by omega) (fun k hk hJ f=>?_) (fun K hK k x U hk hU hX=>?_)
 ·rw [hS0]
  cases hT:decide (((k+1:Nat):Int)<(R.length:Int)) with
  |false=>
   obtain ⟨j,j0,j1,j2⟩:=hex
   have:=of_decide_eq_false hT
   rw [hJ j j0 (by omega)] at j2
   cases j2
  |true=>
   have hk1:=of_decide_eq_true hT
   have hW:IntKind.i64.wrap (((k+1:Nat):Int)+1)=((k+1+1:Nat):Int):=by rw [IntWalk.i64_in _ (by omega)];omega
   cases hq:riseI R (((k+1:Nat):Int)) with
   |true=>exact rnd_nD (⟨Try.prog,[],[],dkHo,Id'.one,60⟩:Sy Td) rfl ((fun (W0:World) (G:Nat→Prop)=>SyOk.mk2 Try.mixed dkHo_ok (FnsR.nil) EqsOk.nil) W0 G) (drise_n R ((k+1:Nat):Int) ((k+1+1:Nat):Int) k f hT hW (by omega) hq x0) rfl rfl (by omega) (fun i h0 h1=>by
     by_cases he:i=((k+1:Nat):Int)
     ·subst he;exact hq
     ·exact hJ i h0 (by omega))
   |false=>exact rnd_rD (⟨Try.prog,[],[],dkHo,Id'.one,60⟩:Sy Td) rfl ((fun (W0:World) (G:Nat→Prop)=>SyOk.mk2 Try.mixed dkHo_ok (FnsR.nil) EqsOk.nil) W0 G) (drise_r R ((k+1:Nat):Int) ((k+1+1:Nat):Int) k f hT hW (by omega) hq x0) rfl trivial
 ·revert hU
  match x with
  |.ret=>intro hU;simp only [Option.some.injEq] at hU;subst hU;exact hK
  |.normal=>intro hU;cases hU
  |.exit n=>intro hU;cases hU
set_option maxRecDepth 100000 in
theorem rrise_n (R:List Rw) (i i2:Int) (k:Nat) (f:Nat→Value) (h0:decide (i<(R.length:Int))=true) (h1:IntKind.i64.wrap (i+1)=i2) (h2:0≤i∧i.toNat<R.length) (h3:riseD R (i)=true) (h4:R.length≤100000) (h5:NmsOk R):∃ qs,alN Id' 1 [(3,.c (.one (.v (.int .i64 i2))))] [⟨.us (.ext (.vw [true,false,false,false] R)),false⟩] ((symC (⟨Try.prog,[(155,ctrF Id' C_ris hardD)],[],dkHo,Id'.one,60⟩:Sy Td) [] 34 (hdC (loopsC (bodyOf Try.f122)) 0) ⟨[(3,.c (.one (.v (.int .i64 i))))]++anyB' (writesC (hdC (loopsC (bodyOf Try.f122)) 0)) ([(0,.c (.one (.obj 0)))]++tabV f 34),[⟨.us (.ext (.vw [true,false,false,false] R)),false⟩],0⟩).al [true,false])=some qs∧∀ q∈qs,q:=
 ⟨[decide (i<(↑R.length:Int))=true,(decide (i>(0:Int))&&(!!isE ((R.getD i.toNat Rw.zero).ss.getD (0:Nat) (ByteArray.mk #[])) ((R.getD i.toNat Rw.zero).is.getD (0:Nat) (0:Int)) ((R.getD i.toNat Rw.zero).is.getD ((0:Nat)+(1:Nat)) (0:Int)) ((R.getD i.toNat Rw.zero).is.getD ((0:Nat)+(1:Nat)+(1:Nat)) (0:Int))&&true))=true→(0:Int)≤IntKind.i64.wrap (i - (1:Int))∧(IntKind.i64.wrap (i - (1:Int))).toNat<R.length,(decide (i>(0:Int))&&(!!isE ((R.getD i.toNat Rw.zero).ss.getD (0:Nat) (ByteArray.mk #[])) ((R.getD i.toNat Rw.zero).is.getD (0:Nat) (0:Int)) ((R.getD i.toNat Rw.zero).is.getD ((0:Nat)+(1:Nat)) (0:Int)) ((R.getD i.toNat Rw.zero).is.getD ((0:Nat)+(1:Nat)+(1:Nat)) (0:Int))&&true))=true→(0:Int)≤i∧i.toNat<R.length,((R.getD i.toNat Rw.zero).ss.getD (0:Nat) (ByteArray.mk #[])).size≤(100000:Nat),(0:Int)≤i∧i.toNat<R.length,(!isE ((R.getD i.toNat Rw.zero).ss.getD (0:Nat) (ByteArray.mk #[])) ((R.getD i.toNat Rw.zero).is.getD (0:Nat) (0:Int)) ((R.getD i.toNat Rw.zero).is.getD ((0:Nat)+(1:Nat)) (0:Int)) ((R.getD i.toNat Rw.zero).is.getD ((0:Nat)+(1:Nat)+(1:Nat)) (0:Int))||decide (i>(0:Int))&&(Op.bytesLess ((R.getD i.toNat Rw.zero).ss.getD (0:Nat) (ByteArray.mk #[])).toList ((R.getD (IntKind.i64.wrap (i - (1:Int))).toNat Rw.zero).ss.getD (0:Nat) (ByteArray.mk #[])).toList||((R.getD i.toNat Rw.zero).ss.getD (0:Nat) (ByteArray.mk #[])).toList==((R.getD (IntKind.i64.wrap (i - (1:Int))).toNat Rw.zero).ss.getD (0:Nat) (ByteArray.mk #[])).toList))=false,Th.ext (Dk.vw [true,false,false,false] R)=Th.ext (Dk.vw [true,false,false,false] R),Value.int IntKind.i64 (IntKind.i64.wrap (i+(1:Int)))=Value.int IntKind.i64 i2],by kernel_rfl,(by refine mcons ?_ (mcons ?_ (mcons ?_ (mcons ?_ (mcons ?_ (mcons ?_ (mcons ?_ (mcons ?_ mnil)))))))<;>first|rfl|exact h0|exact h1|exact h2|exact h3|exact h4|exact h5|trivial|(exact congrArg _ h1)|(exact h2)|(exact fun _=>h2)|(exact fun hg=>im1 (by have:=(Bool.and_eq_true_iff.1 hg).1;have:=of_decide_eq_true this;omega) h2.2 h4)|(exact h5.at _)|(exact Bool.not_inj (h3:_=!false))|(exact Bool.not_inj (h3:_=!true)))⟩
set_option maxRecDepth 100000 in
theorem rrise_x (R:List Rw) (i i2:Int) (k:Nat) (f:Nat→Value) (h0:decide (i<(R.length:Int))=false):∃ qs,alX Id' 1 0 [] [⟨.us (.ext (.vw [true,false,false,false] R)),false⟩] ((symC (⟨Try.prog,[(155,ctrF Id' C_ris hardD)],[],dkHo,Id'.one,60⟩:Sy Td) [] 34 (hdC (loopsC (bodyOf Try.f122)) 0) ⟨[(3,.c (.one (.v (.int .i64 i))))]++anyB' (writesC (hdC (loopsC (bodyOf Try.f122)) 0)) ([(0,.c (.one (.obj 0)))]++tabV f 34),[⟨.us (.ext (.vw [true,false,false,false] R)),false⟩],0⟩).al [false])=some qs∧∀ q∈qs,q:=
 ⟨[decide (i<(↑R.length:Int))=false,Th.ext (Dk.vw [true,false,false,false] R)=Th.ext (Dk.vw [true,false,false,false] R)],by kernel_rfl,(by refine mcons ?_ (mcons ?_ mnil)<;>first|rfl|exact h0|trivial|(exact congrArg _ h1)|(exact h2)|(exact fun _=>h2)|(exact fun hg=>im1 (by have:=(Bool.and_eq_true_iff.1 hg).1;have:=of_decide_eq_true this;omega) h2.2 h4)|(exact h5.at _)|(exact Bool.not_inj (h3:_=!false))|(exact Bool.not_inj (h3:_=!true)))⟩
set_option maxRecDepth 100000 in
theorem rrise_r (R:List Rw) (i i2:Int) (k:Nat) (f:Nat→Value) (h0:decide (i<(R.length:Int))=true) (h1:IntKind.i64.wrap (i+1)=i2) (h2:0≤i∧i.toNat<R.length) (h3:riseD R (i)=false) (h4:R.length≤100000) (h5:NmsOk R):∃ qs,alR Id' 1 [(2,.c (.one (.kB false)))] [⟨.us (.ext (.vw [true,false,false,false] R)),false⟩] ((symC (⟨Try.prog,[(155,ctrF Id' C_ris hardD)],[],dkHo,Id'.one,60⟩:Sy Td) [] 34 (hdC (loopsC (bodyOf Try.f122)) 0) ⟨[(3,.c (.one (.v (.int .i64 i))))]++anyB' (writesC (hdC (loopsC (bodyOf Try.f122)) 0)) ([(0,.c (.one (.obj 0)))]++tabV f 34),[⟨.us (.ext (.vw [true,false,false,false] R)),false⟩],0⟩).al [true,true])=some qs∧∀ q∈qs,q:=
 ⟨[decide (i<(↑R.length:Int))=true,(decide (i>(0:Int))&&(!!isE ((R.getD i.toNat Rw.zero).ss.getD (0:Nat) (ByteArray.mk #[])) ((R.getD i.toNat Rw.zero).is.getD (0:Nat) (0:Int)) ((R.getD i.toNat Rw.zero).is.getD ((0:Nat)+(1:Nat)) (0:Int)) ((R.getD i.toNat Rw.zero).is.getD ((0:Nat)+(1:Nat)+(1:Nat)) (0:Int))&&true))=true→(0:Int)≤IntKind.i64.wrap (i - (1:Int))∧(IntKind.i64.wrap (i - (1:Int))).toNat<R.length,(decide (i>(0:Int))&&(!!isE ((R.getD i.toNat Rw.zero).ss.getD (0:Nat) (ByteArray.mk #[])) ((R.getD i.toNat Rw.zero).is.getD (0:Nat) (0:Int)) ((R.getD i.toNat Rw.zero).is.getD ((0:Nat)+(1:Nat)) (0:Int)) ((R.getD i.toNat Rw.zero).is.getD ((0:Nat)+(1:Nat)+(1:Nat)) (0:Int))&&true))=true→(0:Int)≤i∧i.toNat<R.length,((R.getD i.toNat Rw.zero).ss.getD (0:Nat) (ByteArray.mk #[])).size≤(100000:Nat),(0:Int)≤i∧i.toNat<R.length,(!isE ((R.getD i.toNat Rw.zero).ss.getD (0:Nat) (ByteArray.mk #[])) ((R.getD i.toNat Rw.zero).is.getD (0:Nat) (0:Int)) ((R.getD i.toNat Rw.zero).is.getD ((0:Nat)+(1:Nat)) (0:Int)) ((R.getD i.toNat Rw.zero).is.getD ((0:Nat)+(1:Nat)+(1:Nat)) (0:Int))||decide (i>(0:Int))&&(Op.bytesLess ((R.getD i.toNat Rw.zero).ss.getD (0:Nat) (ByteArray.mk #[])).toList ((R.getD (IntKind.i64.wrap (i - (1:Int))).toNat Rw.zero).ss.getD (0:Nat) (ByteArray.mk #[])).toList||((R.getD i.toNat Rw.zero).ss.getD (0:Nat) (ByteArray.mk #[])).toList==((R.getD (IntKind.i64.wrap (i - (1:Int))).toNat Rw.zero).ss.getD (0:Nat) (ByteArray.mk #[])).toList))=true,Th.ext (Dk.vw [true,false,false,false] R)=Th.ext (Dk.vw [true,false,false,false] R),Value.bool false=Value.bool false],by kernel_rfl,(by refine mcons ?_ (mcons ?_ (mcons ?_ (mcons ?_ (mcons ?_ (mcons ?_ (mcons ?_ (mcons ?_ mnil)))))))<;>first|rfl|exact h0|exact h1|exact h2|exact h3|exact h4|exact h5|trivial|(exact congrArg _ h1)|(exact h2)|(exact fun _=>h2)|(exact fun hg=>im1 (by have:=(Bool.and_eq_true_iff.1 hg).1;have:=of_decide_eq_true this;omega) h2.2 h4)|(exact h5.at _)|(exact Bool.not_inj (h3:_=!false))|(exact Bool.not_inj (h3:_=!true)))⟩
set_option maxRecDepth 100000 in
theorem rrise_lpA (R:List Rw) (hL:R.length≤100000) (x0:R.length≤100000) (x1:NmsOk R) (hall:∀ i:Int,0≤i→i.toNat<R.length→riseD R (i)=true) {W0:World} {G:Nat→Prop} (S0:Sy Td) (hS0:S0.P=Try.prog):LoopSound S0 Id' W0 G 34 (hdC (loopsC (bodyOf Try.f122)) 0) (lpG Id' 34 (hdC (loopsC (bodyOf Try.f122)) 0) 1 [(3,.c (.one (.v (.int .i64 ((0+0:Nat):Int)))))] [(0,.c (.one (.obj 0)))] [⟨.us (.ext (.vw [true,false,false,false] R)),false⟩] (.leaf (.exit 0) [] [⟨.us (.ext (.vw [true,false,false,false] R)),false⟩])):=by
 refine lp_sound (V:=fun k=>[(3,.c (.one (.v (.int .i64 ((k+0:Nat):Int)))))]) (M:=(fun k=>[⟨.us (.ext (.vw [true,false,false,false] R)),false⟩]:Nat→Mem Td)) (N:=R.length) (Ux:=fun k x=>match x with|.exit 0=>some ([],([⟨.us (.ext (.vw [true,false,false,false] R)),false⟩]:Mem Td))|_=>none) (X:=fun _ _=>True) (J:=fun k=>True) (fun k=>by kernel_rfl) trivial (fun k hk hJ f=>?_) (fun K hK k x U hk hU hX=>?_)
 ·rw [hS0]
  cases hT:decide (((k+0:Nat):Int)<(R.length:Int)) with
  |false=>
   exact rnd_xD (⟨Try.prog,[(155,ctrF Id' C_ris hardD)],[],dkHo,Id'.one,60⟩:Sy Td) rfl ((fun (W0:World) (G:Nat→Prop)=>SyOk.mk2 Try.mixed dkHo_ok (FnsR.cons (R_ris) (FnsR.nil)) EqsOk.nil) W0 G) (rrise_x R ((k+0:Nat):Int) ((k+1+0:Nat):Int) k f hT) rfl trivial
  |true=>
   have hk1:=of_decide_eq_true hT
   have hW:IntKind.i64.wrap (((k+0:Nat):Int)+1)=((k+1+0:Nat):Int):=by rw [IntWalk.i64_in _ (by omega)];omega
   exact rnd_nD (⟨Try.prog,[(155,ctrF Id' C_ris hardD)],[],dkHo,Id'.one,60⟩:Sy Td) rfl ((fun (W0:World) (G:Nat→Prop)=>SyOk.mk2 Try.mixed dkHo_ok (FnsR.cons (R_ris) (FnsR.nil)) EqsOk.nil) W0 G) (rrise_n R ((k+0:Nat):Int) ((k+1+0:Nat):Int) k f hT hW (by omega) (hall _ (by omega) (by omega)) x0 x1) rfl rfl (by omega) trivial
 ·revert hU
  match x with
  |.exit 0=>intro hU;simp only [Option.some.injEq] at hU;subst hU;exact hK
  |.normal=>intro hU;cases hU
  |.ret=>intro hU;cases hU
  |.exit (n+1)=>intro hU;cases hU
set_option maxRecDepth 100000 in
theorem rrise_lpR (R:List Rw) (hL:R.length≤100000) (x0:R.length≤100000) (x1:NmsOk R) (hex:∃ i:Int,0≤i∧i.toNat<R.length∧riseD R (i)=false) {W0:World} {G:Nat→Prop} (S0:Sy Td) (hS0:S0.P=Try.prog):LoopSound S0 Id' W0 G 34 (hdC (loopsC (bodyOf Try.f122)) 0) (lpG Id' 34 (hdC (loopsC (bodyOf Try.f122)) 0) 1 [(3,.c (.one (.v (.int .i64 ((0+0:Nat):Int)))))] [(0,.c (.one (.obj 0)))] [⟨.us (.ext (.vw [true,false,false,false] R)),false⟩] (.leaf .ret [(2,.c (.one (.kB false)))] [⟨.us (.ext (.vw [true,false,false,false] R)),false⟩])):=by
 refine lp_sound (V:=fun k=>[(3,.c (.one (.v (.int .i64 ((k+0:Nat):Int)))))]) (M:=(fun k=>[⟨.us (.ext (.vw [true,false,false,false] R)),false⟩]:Nat→Mem Td)) (N:=R.length) (Ux:=fun k x=>match x with|.ret=>some ([(2,.c (.one (.kB false)))],([⟨.us (.ext (.vw [true,false,false,false] R)),false⟩]:Mem Td))|_=>none) (X:=fun _ _=>True) (J:=fun k=>∀ i:Int,0≤i→i<((k+0:Nat):Int)→riseD R (i)=true) (fun k=>by kernel_rfl) (fun i h0 h1=>by omega) (fun k hk hJ f=>?_) (fun K hK k x U hk hU hX=>?_)
 ·rw [hS0]
  cases hT:decide (((k+0:Nat):Int)<(R.length:Int)) with
  |false=>
   obtain ⟨j,j0,j1,j2⟩:=hex
   have:=of_decide_eq_false hT
   rw [hJ j j0 (by omega)] at j2
   cases j2
  |true=>
   have hk1:=of_decide_eq_true hT
   have hW:IntKind.i64.wrap (((k+0:Nat):Int)+1)=((k+1+0:Nat):Int):=by rw [IntWalk.i64_in _ (by omega)];omega
   cases hq:riseD R (((k+0:Nat):Int)) with
   |true=>exact rnd_nD (⟨Try.prog,[(155,ctrF Id' C_ris hardD)],[],dkHo,Id'.one,60⟩:Sy Td) rfl ((fun (W0:World) (G:Nat→Prop)=>SyOk.mk2 Try.mixed dkHo_ok (FnsR.cons (R_ris) (FnsR.nil)) EqsOk.nil) W0 G) (rrise_n R ((k+0:Nat):Int) ((k+1+0:Nat):Int) k f hT hW (by omega) hq x0 x1) rfl rfl (by omega) (fun i h0 h1=>by
     by_cases he:i=((k+0:Nat):Int)
     ·subst he;exact hq
     ·exact hJ i h0 (by omega))
   |false=>exact rnd_rD (⟨Try.prog,[(155,ctrF Id' C_ris hardD)],[],dkHo,Id'.one,60⟩:Sy Td) rfl ((fun (W0:World) (G:Nat→Prop)=>SyOk.mk2 Try.mixed dkHo_ok (FnsR.cons (R_ris) (FnsR.nil)) EqsOk.nil) W0 G) (rrise_r R ((k+0:Nat):Int) ((k+1+0:Nat):Int) k f hT hW (by omega) hq x0 x1) rfl trivial
 ·revert hU
  match x with
  |.ret=>intro hU;simp only [Option.some.injEq] at hU;subst hU;exact hK
  |.normal=>intro hU;cases hU
  |.exit n=>intro hU;cases hU
set_option maxRecDepth 100000 in
theorem driseA_w0 (R:List Rw) :∃ qs,wayO Id' ([⟨.us (.ext (.vw [true,false,false,false] R)),false⟩]:Mem Td).length [⟨.us (.ext (.vw [true,false,false,false] R)),false⟩] (svV (.bool true)) ((runFn (⟨Try.prog,[],[],dkHo,Id'.one,60⟩:Sy Td) [(2,(lpG Id' 22 (hdC (loopsC (bodyOf Try.f115)) 0) 1 [(3,.c (.one (.v (.int .i64 ((0+1:Nat):Int)))))] [(0,.c (.one (.obj 0)))] [⟨.us (.ext (.vw [true,false,false,false] R)),false⟩] (.leaf (.exit 0) [] [⟨.us (.ext (.vw [true,false,false,false] R)),false⟩])))] Try.f115 [.one (.obj 0)] [⟨.us (.ext (.vw [true,false,false,false] R)),false⟩]).al [])=some qs∧∀ q∈qs,q:=
 ⟨[Th.ext (Dk.vw [true,false,false,false] R)=Th.ext (Dk.vw [true,false,false,false] R),Value.int IntKind.i64 (Int.ofNat 1)=Value.int IntKind.i64 (Int.ofNat ((0:Nat)+(1:Nat))),Th.ext (Dk.vw [true,false,false,false] R)=Th.ext (Dk.vw [true,false,false,false] R),Value.bool true=Value.bool true],by kernel_rfl,(by refine mcons ?_ (mcons ?_ (mcons ?_ (mcons ?_ mnil)))<;>first|rfl|trivial)⟩
set_option maxRecDepth 100000 in
theorem driseR_w0 (R:List Rw) :∃ qs,wayO Id' ([⟨.us (.ext (.vw [true,false,false,false] R)),false⟩]:Mem Td).length [⟨.us (.ext (.vw [true,false,false,false] R)),false⟩] (svV (.bool false)) ((runFn (⟨Try.prog,[],[],dkHo,Id'.one,60⟩:Sy Td) [(2,(lpG Id' 22 (hdC (loopsC (bodyOf Try.f115)) 0) 1 [(3,.c (.one (.v (.int .i64 ((0+1:Nat):Int)))))] [(0,.c (.one (.obj 0)))] [⟨.us (.ext (.vw [true,false,false,false] R)),false⟩] (.leaf .ret [(2,.c (.one (.kB false)))] [⟨.us (.ext (.vw [true,false,false,false] R)),false⟩])))] Try.f115 [.one (.obj 0)] [⟨.us (.ext (.vw [true,false,false,false] R)),false⟩]).al [])=some qs∧∀ q∈qs,q:=
 ⟨[Th.ext (Dk.vw [true,false,false,false] R)=Th.ext (Dk.vw [true,false,false,false] R),Value.int IntKind.i64 (Int.ofNat 1)=Value.int IntKind.i64 (Int.ofNat ((0:Nat)+(1:Nat))),Th.ext (Dk.vw [true,false,false,false] R)=Th.ext (Dk.vw [true,false,false,false] R),Value.bool false=Value.bool false],by kernel_rfl,(by refine mcons ?_ (mcons ?_ (mcons ?_ (mcons ?_ mnil)))<;>first|rfl|trivial)⟩
set_option maxRecDepth 100000 in
theorem rriseA_w0 (R:List Rw) :∃ qs,wayO Id' ([⟨.us (.ext (.vw [true,false,false,false] R)),false⟩]:Mem Td).length [⟨.us (.ext (.vw [true,false,false,false] R)),false⟩] (svV (.bool true)) ((runFn (⟨Try.prog,[(155,ctrF Id' C_ris hardD)],[],dkHo,Id'.one,60⟩:Sy Td) [(2,(lpG Id' 34 (hdC (loopsC (bodyOf Try.f122)) 0) 1 [(3,.c (.one (.v (.int .i64 ((0+0:Nat):Int)))))] [(0,.c (.one (.obj 0)))] [⟨.us (.ext (.vw [true,false,false,false] R)),false⟩] (.leaf (.exit 0) [] [⟨.us (.ext (.vw [true,false,false,false] R)),false⟩])))] Try.f122 [.one (.obj 0)] [⟨.us (.ext (.vw [true,false,false,false] R)),false⟩]).al [])=some qs∧∀ q∈qs,q:=
 ⟨[Th.ext (Dk.vw [true,false,false,false] R)=Th.ext (Dk.vw [true,false,false,false] R),Value.int IntKind.i64 (Int.ofNat 0)=Value.int IntKind.i64 (Int.ofNat ((0:Nat)+(0:Nat))),Th.ext (Dk.vw [true,false,false,false] R)=Th.ext (Dk.vw [true,false,false,false] R),Value.bool true=Value.bool true],by kernel_rfl,(by refine mcons ?_ (mcons ?_ (mcons ?_ (mcons ?_ mnil)))<;>first|rfl|trivial)⟩
set_option maxRecDepth 100000 in
theorem rriseR_w0 (R:List Rw) :∃ qs,wayO Id' ([⟨.us (.ext (.vw [true,false,false,false] R)),false⟩]:Mem Td).length [⟨.us (.ext (.vw [true,false,false,false] R)),false⟩] (svV (.bool false)) ((runFn (⟨Try.prog,[(155,ctrF Id' C_ris hardD)],[],dkHo,Id'.one,60⟩:Sy Td) [(2,(lpG Id' 34 (hdC (loopsC (bodyOf Try.f122)) 0) 1 [(3,.c (.one (.v (.int .i64 ((0+0:Nat):Int)))))] [(0,.c (.one (.obj 0)))] [⟨.us (.ext (.vw [true,false,false,false] R)),false⟩] (.leaf .ret [(2,.c (.one (.kB false)))] [⟨.us (.ext (.vw [true,false,false,false] R)),false⟩])))] Try.f122 [.one (.obj 0)] [⟨.us (.ext (.vw [true,false,false,false] R)),false⟩]).al [])=some qs∧∀ q∈qs,q:=
 ⟨[Th.ext (Dk.vw [true,false,false,false] R)=Th.ext (Dk.vw [true,false,false,false] R),Value.int IntKind.i64 (Int.ofNat 0)=Value.int IntKind.i64 (Int.ofNat ((0:Nat)+(0:Nat))),Th.ext (Dk.vw [true,false,false,false] R)=Th.ext (Dk.vw [true,false,false,false] R),Value.bool false=Value.bool false],by kernel_rfl,(by refine mcons ?_ (mcons ?_ (mcons ?_ (mcons ?_ mnil)))<;>first|rfl|trivial)⟩
set_option maxRecDepth 100000 in
theorem ctf_w0 (R:List Rw) (h0:R.length≤100000):∃ qs,wayO Id' ([⟨.us (.ext (.vw [true,false,false,false] R)),false⟩]:Mem Td).length [⟨.us (.ext (.vw [true,false,false,false] R)),false⟩] (svV (.bool (!allI 0 R.length (isI R)))) ((runFn (⟨Try.prog,[(153,ctrF Id' C_ixf hardD)],[],dkHo,Id'.one,60⟩:Sy Td) [] Try.f116 [.one (.obj 0),.fn 117 []] [⟨.us (.ext (.vw [true,false,false,false] R)),false⟩]).al [])=some qs∧∀ q∈qs,q:=
 ⟨[R.length≤(100000:Nat),Th.ext (Dk.vw [true,false,false,false] R)=Th.ext (Dk.vw [true,false,false,false] R),Value.bool (decide (fstI R.length (isI R)≥(0:Int)))=Value.bool !allI (0:Nat) R.length (isI R)],by kernel_rfl,(by refine mcons ?_ (mcons ?_ (mcons ?_ mnil))<;>first|rfl|exact h0|trivial|(exact congrArg _ (fst_all R.length (isI R))))⟩
def C_ctf:Ctr Td:=fun us sub=>match us,sub with
 |[.one (.obj 0),.fn 117 []],[⟨.us (.ext (.vw [true,false,false,false] R)),false⟩]=>some ([R.length≤100000],svV (.bool (!allI 0 R.length (isI R))),[⟨.us (.ext (.vw [true,false,false,false] R)),false⟩])
 |_,_=>none
set_option maxRecDepth 100000 in
theorem C_ctf_ok:CtrOk Try.prog Id' 116 C_ctf:=by
 intro us sub ps x sm h hp w e vs hM ha
 unfold C_ctf at h
 split at h
 ·rename_i R
  simp only [Option.some.injEq,Prod.mk.injEq] at h
  obtain ⟨rfl,rfl,rfl⟩:=h
  exact ctr_way (I:=Id') (fun (W0:World) (G:Nat→Prop)=>SyOk.mk2 Try.mixed dkHo_ok (FnsR.cons (R_ixf) (FnsR.nil)) EqsOk.nil) rfl Try.func116 (by kernel_rfl) (fun _ _=>LpsOk.nil _) (cs:=[]) (by kernel_rfl) (ctf_w0 R (hp _ (List.mem_cons_self ..))) w e vs hM ha
 ·cases h
theorem R_ctf:RowOk Try.prog Id' hardD 116 (ctrF Id' C_ctf hardD):=ctrF_ok Try.call116 C_ctf_ok
def C_drise:Ctr Td:=fun us sub=>match us,sub with
 |[.one (.obj 0)],[⟨.us (.ext (.vw [true,false,false,false] R)),false⟩]=>some ([R.length≤100000],svV (.bool (allI 1 R.length (riseI R))),[⟨.us (.ext (.vw [true,false,false,false] R)),false⟩])
 |_,_=>none
set_option maxRecDepth 100000 in
theorem C_drise_ok:CtrOk Try.prog Id' 115 C_drise:=by
 intro us sub ps x sm h hp w e vs hM ha
 unfold C_drise at h
 split at h
 ·rename_i R
  simp only [Option.some.injEq,Prod.mk.injEq] at h
  obtain ⟨rfl,rfl,rfl⟩:=h
  have hL:R.length≤100000:=hp _ (List.mem_cons_self ..)
  rcases allI_cases 1 R.length (riseI R) with ⟨hv,hall⟩|⟨hv,hex⟩
  ·rw [hv]
   exact ctr_way (I:=Id') (fun (W0:World) (G:Nat→Prop)=>SyOk.mk2 Try.mixed dkHo_ok (FnsR.nil) EqsOk.nil) rfl Try.func115 (by kernel_rfl) (fun _ _=>LpsOk.cons (by kernel_rfl) (drise_lpA R hL hL hall _ rfl) (LpsOk.nil _)) (cs:=[]) (by kernel_rfl) (driseA_w0 R ) w e vs hM ha
  ·rw [hv]
   exact ctr_way (I:=Id') (fun (W0:World) (G:Nat→Prop)=>SyOk.mk2 Try.mixed dkHo_ok (FnsR.nil) EqsOk.nil) rfl Try.func115 (by kernel_rfl) (fun _ _=>LpsOk.cons (by kernel_rfl) (drise_lpR R hL hL hex _ rfl) (LpsOk.nil _)) (cs:=[]) (by kernel_rfl) (driseR_w0 R ) w e vs hM ha
 ·cases h
theorem R_drise:RowOk Try.prog Id' hardD 115 (ctrF Id' C_drise hardD):=ctrF_ok Try.call115 C_drise_ok
def C_rrise:Ctr Td:=fun us sub=>match us,sub with
 |[.one (.obj 0)],[⟨.us (.ext (.vw [true,false,false,false] R)),false⟩]=>some ([R.length≤100000,NmsOk R],svV (.bool (allI 0 R.length (riseD R))),[⟨.us (.ext (.vw [true,false,false,false] R)),false⟩])
 |_,_=>none
set_option maxRecDepth 100000 in
theorem C_rrise_ok:CtrOk Try.prog Id' 122 C_rrise:=by
 intro us sub ps x sm h hp w e vs hM ha
 unfold C_rrise at h
 split at h
 ·rename_i R
  simp only [Option.some.injEq,Prod.mk.injEq] at h
  obtain ⟨rfl,rfl,rfl⟩:=h
  have hL:R.length≤100000:=hp _ (List.mem_cons_self ..)
  have hN:NmsOk R:=hp _ (List.mem_cons_of_mem _ (List.mem_cons_self ..))
  rcases allI_cases 0 R.length (riseD R) with ⟨hv,hall⟩|⟨hv,hex⟩
  ·rw [hv]
   exact ctr_way (I:=Id') (fun (W0:World) (G:Nat→Prop)=>SyOk.mk2 Try.mixed dkHo_ok (FnsR.cons (R_ris) (FnsR.nil)) EqsOk.nil) rfl Try.func122 (by kernel_rfl) (fun _ _=>LpsOk.cons (by kernel_rfl) (rrise_lpA R hL hL hN hall _ rfl) (LpsOk.nil _)) (cs:=[]) (by kernel_rfl) (rriseA_w0 R ) w e vs hM ha
  ·rw [hv]
   exact ctr_way (I:=Id') (fun (W0:World) (G:Nat→Prop)=>SyOk.mk2 Try.mixed dkHo_ok (FnsR.cons (R_ris) (FnsR.nil)) EqsOk.nil) rfl Try.func122 (by kernel_rfl) (fun _ _=>LpsOk.cons (by kernel_rfl) (rrise_lpR R hL hL hN hex _ rfl) (LpsOk.nil _)) (cs:=[]) (by kernel_rfl) (rriseR_w0 R ) w e vs hM ha
 ·cases h
theorem R_rrise:RowOk Try.prog Id' hardD 122 (ctrF Id' C_rrise hardD):=ctrF_ok Try.call122 C_rrise_ok
end Go.Proofs.Ytdenmoiaiemokaa
set_option linter.unusedVariables false
set_option linter.unusedSimpArgs false
namespace Go.Proofs.Ytdenmoiaiemokaa
open Go.RowKit
def chI (nm:ByteArray) (i:Int):Int:=bif decide (i<(nm.size:Int)) then (((nm.data.toList.getD i.toNat 0).toNat:Nat):Int) else 0
def putN (s:WS) (nm:ByteArray):Nat→WS
 |0=>s
 |k+1=>(putN s nm k).put (chI nm (k:Int)) 8
theorem putN_n (s:WS) (nm:ByteArray):∀ k,(putN s nm k).n=s.n+64 * k
 |0=>rfl
 |k+1=>by show (putN s nm k).n+64=_;rw [putN_n s nm k];omega
theorem u64b (x:UInt8):IntKind.u64.wrap ((x.toNat:Nat):Int)=((x.toNat:Nat):Int):=by have:=x.toNat_lt;exact u64w_id (by omega)
set_option maxRecDepth 100000 in
theorem dput_n1 (s s2:WS) (nm:ByteArray) (a b c:Int) (i i2:Int) (k:Nat) (f:Nat→Value) (h0:decide (i<(16:Int))=true) (h1:IntKind.i64.wrap (i+1)=i2) (h2:0≤i∧i.toNat<nm.size) (h3:decide (i<(nm.size:Int))=true) (h4:s.n≤500000000) (h5:s.put (IntKind.u64.wrap (((nm.data.toList.getD i.toNat 0).toNat:Nat):Int)) 8=s2) (h6:(0:Int)≤IntKind.u64.wrap (((nm.data.toList.getD i.toNat 0).toNat:Nat):Int)∧IntKind.u64.wrap (((nm.data.toList.getD i.toNat 0).toNat:Nat):Int)<(18446744073709551616:Int)):∃ qs,alN Id' 2 [(26,.c (.one (.v (.int .i64 i2))))] [⟨.us (.wr s2),true⟩,⟨.blk [.v (.string nm),.v (.int .i64 a),.v (.int .i64 b),.v (.int .i64 c)],true⟩] ((symC (⟨Try.prog,[F_putP (ξ:=Dk) (hx:=hardDk)],[],dkHo,Id'.one,60⟩:Sy Td) [] 43 (hdC (loopsC (bodyOf Try.f120)) 0) ⟨[(26,.c (.one (.v (.int .i64 i))))]++anyB' (writesC (hdC (loopsC (bodyOf Try.f120)) 0)) ([(0,.c (.one (.obj 0))),(3,.c (.one (.ptr 1 0)))]++tabV f 43),[⟨.us (.wr s),true⟩,⟨.blk [.v (.string nm),.v (.int .i64 a),.v (.int .i64 b),.v (.int .i64 c)],true⟩],0⟩).al [true,true])=some qs∧∀ q∈qs,q:=
 ⟨[decide (i<(16:Int))=true,decide (i<(↑nm.size:Int))=true,(0:Int)≤i∧i.toNat<nm.size,(0:Int)≤IntKind.u64.wrap (↑(nm.data.toList.getD i.toNat (0:UInt8)).toNat:Int)∧IntKind.u64.wrap (↑(nm.data.toList.getD i.toNat (0:UInt8)).toNat:Int)<(18446744073709551616:Int),s.n≤(500000000:Nat),(Th.wr (s.put (IntKind.u64.wrap (((nm.data.toList.getD i.toNat 0).toNat:Nat):Int)) 8):Td)=Th.wr s2,Value.string nm=Value.string nm,Value.int IntKind.i64 a=Value.int IntKind.i64 a,Value.int IntKind.i64 b=Value.int IntKind.i64 b,Value.int IntKind.i64 c=Value.int IntKind.i64 c,Value.int IntKind.i64 (IntKind.i64.wrap (i+(1:Int)))=Value.int IntKind.i64 i2],by kernel_rfl,(by refine mcons ?_ (mcons ?_ (mcons ?_ (mcons ?_ (mcons ?_ (mcons ?_ (mcons ?_ (mcons ?_ (mcons ?_ (mcons ?_ (mcons ?_ mnil))))))))))<;>first|(exact congrArg Th.wr h5)|(exact congrArg _ h1)|exact h0|exact h1|exact h2|exact h3|exact h4|exact h5|exact h6|rfl|trivial|(exact congrArg _ h1)|(exact ⟨h2,by have:=of_decide_eq_true h3;omega⟩)|(have h:=u64b (nm.data.toList.getD i.toNat 0);have h9:=(nm.data.toList.getD i.toNat 0).toNat_lt;rw [h];omega)|(exact ⟨by decide,by decide⟩)|(exact congrArg _ h5)|(exact congrArg _ h1))⟩
set_option maxRecDepth 100000 in
theorem dput_n2 (s s2:WS) (nm:ByteArray) (a b c:Int) (i i2:Int) (k:Nat) (f:Nat→Value) (h0:decide (i<(16:Int))=true) (h1:IntKind.i64.wrap (i+1)=i2) (h2:0≤i) (h3:decide (i<(nm.size:Int))=false) (h4:s.n≤500000000) (h5:s.put 0 8=s2) (h6:(0:Int)≤Int.ofNat (0:Nat)∧Int.ofNat (0:Nat)<(18446744073709551616:Int)):∃ qs,alN Id' 2 [(26,.c (.one (.v (.int .i64 i2))))] [⟨.us (.wr s2),true⟩,⟨.blk [.v (.string nm),.v (.int .i64 a),.v (.int .i64 b),.v (.int .i64 c)],true⟩] ((symC (⟨Try.prog,[F_putP (ξ:=Dk) (hx:=hardDk)],[],dkHo,Id'.one,60⟩:Sy Td) [] 43 (hdC (loopsC (bodyOf Try.f120)) 0) ⟨[(26,.c (.one (.v (.int .i64 i))))]++anyB' (writesC (hdC (loopsC (bodyOf Try.f120)) 0)) ([(0,.c (.one (.obj 0))),(3,.c (.one (.ptr 1 0)))]++tabV f 43),[⟨.us (.wr s),true⟩,⟨.blk [.v (.string nm),.v (.int .i64 a),.v (.int .i64 b),.v (.int .i64 c)],true⟩],0⟩).al [true,false])=some qs∧∀ q∈qs,q:=
 ⟨[decide (i<(16:Int))=true,decide (i<(↑nm.size:Int))=false,(0:Int)≤Int.ofNat (0:Nat)∧Int.ofNat (0:Nat)<(18446744073709551616:Int),s.n≤(500000000:Nat),(Th.wr (s.put 0 8):Td)=Th.wr s2,Value.string nm=Value.string nm,Value.int IntKind.i64 a=Value.int IntKind.i64 a,Value.int IntKind.i64 b=Value.int IntKind.i64 b,Value.int IntKind.i64 c=Value.int IntKind.i64 c,Value.int IntKind.i64 (IntKind.i64.wrap (i+(1:Int)))=Value.int IntKind.i64 i2],by kernel_rfl,(by refine mcons ?_ (mcons ?_ (mcons ?_ (mcons ?_ (mcons ?_ (mcons ?_ (mcons ?_ (mcons ?_ (mcons ?_ (mcons ?_ mnil)))))))))<;>first|(exact congrArg Th.wr h5)|(exact congrArg _ h1)|exact h0|exact h1|exact h2|exact h3|exact h4|exact h5|exact h6|rfl|trivial|(exact congrArg _ h1)|(exact ⟨h2,by have:=of_decide_eq_true h3;omega⟩)|(have h:=u64b (nm.data.toList.getD i.toNat 0);have h9:=(nm.data.toList.getD i.toNat 0).toNat_lt;rw [h];omega)|(exact ⟨by decide,by decide⟩)|(exact congrArg _ h5)|(exact congrArg _ h1))⟩
set_option maxRecDepth 100000 in
theorem dput_x (s s2:WS) (nm:ByteArray) (a b c:Int) (i i2:Int) (k:Nat) (f:Nat→Value) (h0:decide (i<(16:Int))=false) (h1:s=s2):∃ qs,alX Id' 2 0 [] [⟨.us (.wr s2),true⟩,⟨.blk [.v (.string nm),.v (.int .i64 a),.v (.int .i64 b),.v (.int .i64 c)],true⟩] ((symC (⟨Try.prog,[F_putP (ξ:=Dk) (hx:=hardDk)],[],dkHo,Id'.one,60⟩:Sy Td) [] 43 (hdC (loopsC (bodyOf Try.f120)) 0) ⟨[(26,.c (.one (.v (.int .i64 i))))]++anyB' (writesC (hdC (loopsC (bodyOf Try.f120)) 0)) ([(0,.c (.one (.obj 0))),(3,.c (.one (.ptr 1 0)))]++tabV f 43),[⟨.us (.wr s),true⟩,⟨.blk [.v (.string nm),.v (.int .i64 a),.v (.int .i64 b),.v (.int .i64 c)],true⟩],0⟩).al [false])=some qs∧∀ q∈qs,q:=
 ⟨[decide (i<(16:Int))=false,(Th.wr s:Td)=Th.wr s2,Value.string nm=Value.string nm,Value.int IntKind.i64 a=Value.int IntKind.i64 a,Value.int IntKind.i64 b=Value.int IntKind.i64 b,Value.int IntKind.i64 c=Value.int IntKind.i64 c],by kernel_rfl,(by refine mcons ?_ (mcons ?_ (mcons ?_ (mcons ?_ (mcons ?_ (mcons ?_ mnil)))))<;>first|rfl|exact h0|exact h1|rfl|trivial|(exact congrArg _ h1))⟩
set_option maxRecDepth 100000 in
theorem dput_lp (s:WS) (nm:ByteArray) (a b c:Int) (hs:s.n≤400000000) {W0:World} {G:Nat→Prop} (S0:Sy Td) (hS0:S0.P=Try.prog):LoopSound S0 Id' W0 G 43 (hdC (loopsC (bodyOf Try.f120)) 0) (lpG Id' 43 (hdC (loopsC (bodyOf Try.f120)) 0) 2 [(26,.c (.one (.v (.int .i64 ((0:Nat):Int)))))] [(0,.c (.one (.obj 0))),(3,.c (.one (.ptr 1 0)))] [⟨.us (.wr (putN s nm 0)),true⟩,⟨.blk [.v (.string nm),.v (.int .i64 a),.v (.int .i64 b),.v (.int .i64 c)],true⟩] (.leaf (.exit 0) [] [⟨.us (.wr (putN s nm 16)),true⟩,⟨.blk [.v (.string nm),.v (.int .i64 a),.v (.int .i64 b),.v (.int .i64 c)],true⟩])):=by
 refine lp_sound (V:=fun k=>[(26,.c (.one (.v (.int .i64 (k:Int)))))]) (M:=(fun k=>[⟨.us (.wr (putN s nm k)),true⟩,⟨.blk [.v (.string nm),.v (.int .i64 a),.v (.int .i64 b),.v (.int .i64 c)],true⟩]:Nat→Mem Td)) (N:=16) (Ux:=fun k x=>match x with|.exit 0=>some ([],([⟨.us (.wr (putN s nm 16)),true⟩,⟨.blk [.v (.string nm),.v (.int .i64 a),.v (.int .i64 b),.v (.int .i64 c)],true⟩]:Mem Td))|_=>none) (X:=fun _ _=>True) (J:=fun k=>True) (fun k=>by kernel_rfl) trivial (fun k hk hJ f=>?_) (fun K hK k x U hk hU hX=>?_)
 ·rw [hS0]
  have hn:=putN_n s nm k
  cases hT:decide ((k:Int)<(16:Int)) with
  |false=>
   have hke:k=16:=by have:=of_decide_eq_false hT;omega
   exact rnd_xD (⟨Try.prog,[F_putP (ξ:=Dk) (hx:=hardDk)],[],dkHo,Id'.one,60⟩:Sy Td) rfl ((fun (W0:World) (G:Nat→Prop)=>SyOk.mk2 Try.mixed dkHo_ok (FnsR.cons (F_putP_ok (J:=dkI) (hx:=hardDk)) (FnsR.nil)) EqsOk.nil) W0 G) (dput_x (putN s nm k) (putN s nm 16) nm a b c (k:Int) ((k+1:Nat):Int) k f hT (by rw [hke])) rfl  trivial
  |true=>
   have hk1:=of_decide_eq_true hT
   have hW:IntKind.i64.wrap ((k:Int)+1)=((k+1:Nat):Int):=by rw [IntWalk.i64_in _ (by omega)];omega
   cases hq:decide ((k:Int)<(nm.size:Int)) with
   |true=>
    have he:(putN s nm k).put (IntKind.u64.wrap (((nm.data.toList.getD (k:Int).toNat 0).toNat:Nat):Int)) 8=putN s nm (k+1):=by
     show _=(putN s nm k).put (chI nm (k:Int)) 8
     unfold chI;rw [u64b,hq];rfl
    exact rnd_nD (⟨Try.prog,[F_putP (ξ:=Dk) (hx:=hardDk)],[],dkHo,Id'.one,60⟩:Sy Td) rfl ((fun (W0:World) (G:Nat→Prop)=>SyOk.mk2 Try.mixed dkHo_ok (FnsR.cons (F_putP_ok (J:=dkI) (hx:=hardDk)) (FnsR.nil)) EqsOk.nil) W0 G) (dput_n1 (putN s nm k) (putN s nm (k+1)) nm a b c (k:Int) ((k+1:Nat):Int) k f hT hW ⟨by omega,by have:=of_decide_eq_true hq;omega⟩ hq (by omega) he (by rw [u64b];have:=(nm.data.toList.getD (k:Int).toNat 0).toNat_lt;omega)) rfl  rfl (by omega) trivial
   |false=>
    have he:(putN s nm k).put 0 8=putN s nm (k+1):=by
     show _=(putN s nm k).put (chI nm (k:Int)) 8
     unfold chI;rw [hq];rfl
    exact rnd_nD (⟨Try.prog,[F_putP (ξ:=Dk) (hx:=hardDk)],[],dkHo,Id'.one,60⟩:Sy Td) rfl ((fun (W0:World) (G:Nat→Prop)=>SyOk.mk2 Try.mixed dkHo_ok (FnsR.cons (F_putP_ok (J:=dkI) (hx:=hardDk)) (FnsR.nil)) EqsOk.nil) W0 G) (dput_n2 (putN s nm k) (putN s nm (k+1)) nm a b c (k:Int) ((k+1:Nat):Int) k f hT hW (by omega) hq (by omega) he ⟨by decide,by decide⟩) rfl  rfl (by omega) trivial
 ·revert hU
  match x with
  |.exit 0=>intro hU;simp only [Option.some.injEq] at hU;subst hU;exact hK
  |.normal=>intro hU;cases hU
  |.ret=>intro hU;cases hU
  |.exit (n+1)=>intro hU;cases hU
end Go.Proofs.Ytdenmoiaiemokaa
set_option linter.unusedVariables false
set_option linter.unusedSimpArgs false
namespace Go.Proofs.Ytdenmoiaiemokaa
open Go.RowKit
set_option maxRecDepth 100000 in
theorem dput_w0 (s s1 s2:WS) (nm:ByteArray) (a b c:Int) (h0:((((s.put (IntKind.u64.wrap (nm.size:Int)) 5).put (IntKind.u64.wrap a) 6).put (IntKind.u64.wrap b) 31).put (IntKind.u64.wrap c) 2)=s1) (h1:putN s1 nm 16=s2) (h2:(0:Int)≤IntKind.u64.wrap (nm.size:Int)∧IntKind.u64.wrap (nm.size:Int)<(18446744073709551616:Int)) (h3:(0:Int)≤IntKind.u64.wrap a∧IntKind.u64.wrap a<(18446744073709551616:Int)) (h4:(0:Int)≤IntKind.u64.wrap b∧IntKind.u64.wrap b<(18446744073709551616:Int)) (h5:(0:Int)≤IntKind.u64.wrap c∧IntKind.u64.wrap c<(18446744073709551616:Int)) (h6:s.n≤500000000) (h7:(s.put (IntKind.u64.wrap (nm.size:Int)) 5).n≤500000000) (h8:((s.put (IntKind.u64.wrap (nm.size:Int)) 5).put (IntKind.u64.wrap a) 6).n≤500000000) (h9:(((s.put (IntKind.u64.wrap (nm.size:Int)) 5).put (IntKind.u64.wrap a) 6).put (IntKind.u64.wrap b) 31).n≤500000000):∃ qs,wayO Id' ([⟨.us (.wr s),true⟩]:Mem Td).length [⟨.us (.wr s2),true⟩,⟨.dead,true⟩] (.tup []) ((runFn (⟨Try.prog,[F_putP (ξ:=Dk) (hx:=hardDk)],[],dkHo,Id'.one,60⟩:Sy Td) [(3,(lpG Id' 43 (hdC (loopsC (bodyOf Try.f120)) 0) 2 [(26,.c (.one (.v (.int .i64 ((0:Nat):Int)))))] [(0,.c (.one (.obj 0))),(3,.c (.one (.ptr 1 0)))] [⟨.us (.wr (putN s1 nm 0)),true⟩,⟨.blk [.v (.string nm),.v (.int .i64 a),.v (.int .i64 b),.v (.int .i64 c)],true⟩] (.leaf (.exit 0) [] [⟨.us (.wr (putN s1 nm 16)),true⟩,⟨.blk [.v (.string nm),.v (.int .i64 a),.v (.int .i64 b),.v (.int .i64 c)],true⟩])))] Try.f120 [.one (.obj 0),.agg [.v (.string nm),.v (.int .i64 a),.v (.int .i64 b),.v (.int .i64 c)]] [⟨.us (.wr s),true⟩]).al [])=some qs∧∀ q∈qs,q:=
 ⟨[(0:Int)≤IntKind.u64.wrap c∧IntKind.u64.wrap c<(18446744073709551616:Int),(((s.put (IntKind.u64.wrap (↑nm.size:Int)) (↑5:Int)).put (IntKind.u64.wrap a) (↑6:Int)).put (IntKind.u64.wrap b) (↑31:Int)).n≤(500000000:Nat),(0:Int)≤IntKind.u64.wrap b∧IntKind.u64.wrap b<(18446744073709551616:Int),((s.put (IntKind.u64.wrap (↑nm.size:Int)) (↑5:Int)).put (IntKind.u64.wrap a) (↑6:Int)).n≤(500000000:Nat),(0:Int)≤IntKind.u64.wrap a∧IntKind.u64.wrap a<(18446744073709551616:Int),(s.put (IntKind.u64.wrap (↑nm.size:Int)) (↑5:Int)).n≤(500000000:Nat),(0:Int)≤IntKind.u64.wrap (↑nm.size:Int)∧IntKind.u64.wrap (↑nm.size:Int)<(18446744073709551616:Int),s.n≤(500000000:Nat),(Th.wr ((((s.put (IntKind.u64.wrap (nm.size:Int)) 5).put (IntKind.u64.wrap a) 6).put (IntKind.u64.wrap b) 31).put (IntKind.u64.wrap c) 2):Td)=Th.wr s1,Value.string nm=Value.string nm,Value.int IntKind.i64 a=Value.int IntKind.i64 a,Value.int IntKind.i64 b=Value.int IntKind.i64 b,Value.int IntKind.i64 c=Value.int IntKind.i64 c,Value.int IntKind.i64 (Int.ofNat 0)=Value.int IntKind.i64 (Int.ofNat (0:Nat)),(Th.wr (putN s1 nm 16):Td)=Th.wr s2],by kernel_rfl,(by refine mcons ?_ (mcons ?_ (mcons ?_ (mcons ?_ (mcons ?_ (mcons ?_ (mcons ?_ (mcons ?_ (mcons ?_ (mcons ?_ (mcons ?_ (mcons ?_ (mcons ?_ (mcons ?_ (mcons ?_ mnil))))))))))))))<;>first|(exact congrArg Th.wr h0)|(exact congrArg Th.wr h1)|exact h0|exact h1|exact h2|exact h3|exact h4|exact h5|exact h6|exact h7|exact h8|exact h9|rfl|trivial)⟩
theorem u64r (x:Int):0≤IntKind.u64.wrap x∧IntKind.u64.wrap x<18446744073709551616:=by
 show 0≤x % 18446744073709551616∧x % 18446744073709551616<18446744073709551616
 omega
def putW (s:WS) (nm:ByteArray) (a b c:Int):WS:=putN ((((s.put (IntKind.u64.wrap (nm.size:Int)) 5).put (IntKind.u64.wrap a) 6).put (IntKind.u64.wrap b) 31).put (IntKind.u64.wrap c) 2) nm 16
theorem putW_n (s:WS) (nm:ByteArray) (a b c:Int):(putW s nm a b c).n=s.n+1280:=by
 unfold putW
 rw [putN_n];rfl
def C_dput:Ctr Td:=fun us sub=>match us,sub with
 |[.one (.obj 0),.agg [.v (.string nm),.v (.int .i64 a),.v (.int .i64 b),.v (.int .i64 c)]],[⟨.us (.wr s),true⟩]=>some ([s.n≤300000000],.tup [],[⟨.us (.wr (putW s nm a b c)),true⟩,⟨.dead,true⟩])
 |_,_=>none
set_option maxRecDepth 100000 in
theorem C_dput_ok:CtrOk Try.prog Id' 120 C_dput:=by
 intro us sub ps x sm h hp w e vs hM ha
 unfold C_dput at h
 split at h
 ·rename_i nm a b c s
  simp only [Option.some.injEq,Prod.mk.injEq] at h
  obtain ⟨rfl,rfl,rfl⟩:=h
  have hs:s.n≤300000000:=hp _ (List.mem_cons_self ..)
  exact ctr_way (I:=Id') (fun (W0:World) (G:Nat→Prop)=>SyOk.mk2 Try.mixed dkHo_ok (FnsR.cons (F_putP_ok (J:=dkI) (hx:=hardDk)) (FnsR.nil)) EqsOk.nil) rfl Try.func120 (by kernel_rfl) (fun _ _=>LpsOk.cons (by kernel_rfl) (dput_lp _ nm a b c (by show s.n+64+64+64+64≤_;omega) _ rfl) (LpsOk.nil _)) (cs:=[]) (by kernel_rfl) (dput_w0 s _ (putW s nm a b c) nm a b c rfl rfl (u64r _) (u64r _) (u64r _) (u64r _) (by omega) (by show s.n+64≤_;omega) (by show s.n+64+64≤_;omega) (by show s.n+64+64+64≤_;omega)) w e vs hM ha
 ·cases h
end Go.Proofs.Ytdenmoiaiemokaa
set_option linter.unusedVariables false
set_option linter.unusedSimpArgs false
namespace Go.Proofs.Ytdenmoiaiemokaa
open Go.RowKit
def putR (s:WS) (r:Rw):WS:=putW s (r.ss.getD 0 ⟨#[]⟩) (r.is.getD 0 0) (r.is.getD 1 0) (r.is.getD 2 0)
def putsW (s:WS) (Y:List Rw):Nat→WS
 |0=>s
 |k+1=>putR (putsW s Y k) (Y.getD k Rw.zero)
theorem putsW_n (s:WS) (Y:List Rw):∀ k,(putsW s Y k).n=s.n+1280 * k
 |0=>rfl
 |k+1=>by show (putW _ _ _ _ _).n=_;rw [putW_n,putsW_n s Y k];omega
structure PutIs (s:WS) (nm:ByteArray) (a b c:Int) (s2:WS):Prop where
 h:putW s nm a b c=s2
def C_dputY (s2:WS):Ctr Td:=fun us sub=>match us,sub with
 |[.one (.obj 0),.agg [.v (.string nm),.v (.int .i64 a),.v (.int .i64 b),.v (.int .i64 c)]],[⟨.us (.wr s),true⟩]=>some ([s.n≤300000000,PutIs s nm a b c s2],.tup [],[⟨.us (.wr s2),true⟩,⟨.dead,true⟩])
 |_,_=>none
theorem C_dputY_ok (s2:WS):CtrOk Try.prog Id' 120 (C_dputY s2):=by
 intro us sub ps x sm h hp w e vs hM ha
 unfold C_dputY at h
 split at h
 ·rename_i nm a b c s
  simp only [Option.some.injEq,Prod.mk.injEq] at h
  obtain ⟨rfl,rfl,rfl⟩:=h
  have h0:s.n≤300000000:=hp _ (List.mem_cons_self ..)
  have h1:putW s nm a b c=s2:=(hp _ (List.mem_cons_of_mem _ (List.mem_cons_self ..)):PutIs s nm a b c s2).h
  subst h1
  exact C_dput_ok _ _ _ _ _ rfl (fun p hp'=>by rw [List.mem_singleton.1 hp'];exact h0) w e vs hM ha
 ·cases h
set_option maxRecDepth 100000 in
theorem dbi_n (R X Y:List Rw) (O:List (List UInt8)) (s s2:WS) (i i2:Int) (k:Nat) (f:Nat→Value) (h0:decide (i<(Y.length:Int))=true) (h1:IntKind.i64.wrap (i+1)=i2) (h2:0≤i∧i.toNat<Y.length) (h3:s.n≤300000000) (h4:PutIs s ((Y.getD i.toNat Rw.zero).ss.getD 0 ⟨#[]⟩) ((Y.getD i.toNat Rw.zero).is.getD 0 0) ((Y.getD i.toNat Rw.zero).is.getD 1 0) ((Y.getD i.toNat Rw.zero).is.getD 2 0) s2):∃ qs,alN Id' 5 [(34,.c (.one (.v (.int .i64 i2))))] [⟨.us (.ext (.vw [true,false,false,false] R)),false⟩,⟨.us (.ext (.vw [true,false,false,false] X)),false⟩,⟨.us (.ext (.tab (.bs O))),true⟩,⟨.us (.wr s2),true⟩,⟨.us (.ext (.vw [true,false,false,false] Y)),false⟩] ((symC (⟨Try.prog,[(120,ctrF Id' (C_dputY s2) hardD)],[],dkHo,Id'.one,60⟩:Sy Td) [] 59 (hdC (loopsC (bodyOf Try.f58)) 1) ⟨[(34,.c (.one (.v (.int .i64 i))))]++anyB' (writesC (hdC (loopsC (bodyOf Try.f58)) 1)) ([(6,.c (.one (.obj 3))),(32,.c (.one (.obj 4))),(33,.c (.one (.v (.int .i64 (Y.length:Int)))))]++tabV f 59),[⟨.us (.ext (.vw [true,false,false,false] R)),false⟩,⟨.us (.ext (.vw [true,false,false,false] X)),false⟩,⟨.us (.ext (.tab (.bs O))),true⟩,⟨.us (.wr s),true⟩,⟨.us (.ext (.vw [true,false,false,false] Y)),false⟩],0⟩).al [true])=some qs∧∀ q∈qs,q:=
 ⟨[decide (i<(↑Y.length:Int))=true,(0:Int)≤i∧i.toNat<Y.length,s.n≤(300000000:Nat),PutIs s ((Y.getD i.toNat Rw.zero).ss.getD (0:Nat) (ByteArray.mk #[])) ((Y.getD i.toNat Rw.zero).is.getD (0:Nat) (0:Int)) ((Y.getD i.toNat Rw.zero).is.getD ((0:Nat)+(1:Nat)) (0:Int)) ((Y.getD i.toNat Rw.zero).is.getD ((0:Nat)+(1:Nat)+(1:Nat)) (0:Int)) s2,Th.ext (Dk.vw [true,false,false,false] R)=Th.ext (Dk.vw [true,false,false,false] R),Th.ext (Dk.vw [true,false,false,false] X)=Th.ext (Dk.vw [true,false,false,false] X),Th.ext (Dk.tab (TB.bs O))=Th.ext (Dk.tab (TB.bs O)),(Th.wr s2:Td)=Th.wr s2,Th.ext (Dk.vw [true,false,false,false] Y)=Th.ext (Dk.vw [true,false,false,false] Y),Value.int IntKind.i64 (IntKind.i64.wrap (i+(1:Int)))=Value.int IntKind.i64 i2],by kernel_rfl,(by refine mcons ?_ (mcons ?_ (mcons ?_ (mcons ?_ (mcons ?_ (mcons ?_ (mcons ?_ (mcons ?_ (mcons ?_ (mcons ?_ mnil)))))))))<;>first|rfl|exact h0|exact h1|exact h2|exact h3|exact h4|trivial|(exact congrArg _ h1))⟩
set_option maxRecDepth 100000 in
theorem dbi_x (R X Y:List Rw) (O:List (List UInt8)) (s s2:WS) (i i2:Int) (k:Nat) (f:Nat→Value) (h0:decide (i<(Y.length:Int))=false) (h1:s=s2):∃ qs,alX Id' 5 3 [] [⟨.us (.ext (.vw [true,false,false,false] R)),false⟩,⟨.us (.ext (.vw [true,false,false,false] X)),false⟩,⟨.us (.ext (.tab (.bs O))),true⟩,⟨.us (.wr s2),true⟩,⟨.us (.ext (.vw [true,false,false,false] Y)),false⟩] ((symC (⟨Try.prog,[(120,ctrF Id' (C_dputY s) hardD)],[],dkHo,Id'.one,60⟩:Sy Td) [] 59 (hdC (loopsC (bodyOf Try.f58)) 1) ⟨[(34,.c (.one (.v (.int .i64 i))))]++anyB' (writesC (hdC (loopsC (bodyOf Try.f58)) 1)) ([(6,.c (.one (.obj 3))),(32,.c (.one (.obj 4))),(33,.c (.one (.v (.int .i64 (Y.length:Int)))))]++tabV f 59),[⟨.us (.ext (.vw [true,false,false,false] R)),false⟩,⟨.us (.ext (.vw [true,false,false,false] X)),false⟩,⟨.us (.ext (.tab (.bs O))),true⟩,⟨.us (.wr s),true⟩,⟨.us (.ext (.vw [true,false,false,false] Y)),false⟩],0⟩).al [false])=some qs∧∀ q∈qs,q:=
 ⟨[decide (i<(↑Y.length:Int))=false,Th.ext (Dk.vw [true,false,false,false] R)=Th.ext (Dk.vw [true,false,false,false] R),Th.ext (Dk.vw [true,false,false,false] X)=Th.ext (Dk.vw [true,false,false,false] X),Th.ext (Dk.tab (TB.bs O))=Th.ext (Dk.tab (TB.bs O)),(Th.wr s:Td)=Th.wr s2,Th.ext (Dk.vw [true,false,false,false] Y)=Th.ext (Dk.vw [true,false,false,false] Y)],by kernel_rfl,(by refine mcons ?_ (mcons ?_ (mcons ?_ (mcons ?_ (mcons ?_ (mcons ?_ mnil)))))<;>first|rfl|exact h0|exact h1|trivial|(exact congrArg _ h1))⟩
set_option maxRecDepth 100000 in
theorem dbi_lp (R X Y:List Rw) (O:List (List UInt8)) (s:WS) (hY:Y.length≤100000) (hs:s.n≤100000000) {W0:World} {G:Nat→Prop} (S0:Sy Td) (hS0:S0.P=Try.prog):LoopSound S0 Id' W0 G 59 (hdC (loopsC (bodyOf Try.f58)) 1) (lpG Id' 59 (hdC (loopsC (bodyOf Try.f58)) 1) 5 [(34,.c (.one (.v (.int .i64 ((0:Nat):Int)))))] [(6,.c (.one (.obj 3))),(32,.c (.one (.obj 4))),(33,.c (.one (.v (.int .i64 (Y.length:Int)))))] [⟨.us (.ext (.vw [true,false,false,false] R)),false⟩,⟨.us (.ext (.vw [true,false,false,false] X)),false⟩,⟨.us (.ext (.tab (.bs O))),true⟩,⟨.us (.wr (putsW s Y 0)),true⟩,⟨.us (.ext (.vw [true,false,false,false] Y)),false⟩] (.leaf (.exit 3) [] [⟨.us (.ext (.vw [true,false,false,false] R)),false⟩,⟨.us (.ext (.vw [true,false,false,false] X)),false⟩,⟨.us (.ext (.tab (.bs O))),true⟩,⟨.us (.wr (putsW s Y Y.length)),true⟩,⟨.us (.ext (.vw [true,false,false,false] Y)),false⟩])):=by
 refine lp_sound (V:=fun k=>[(34,.c (.one (.v (.int .i64 (k:Int)))))]) (M:=(fun k=>[⟨.us (.ext (.vw [true,false,false,false] R)),false⟩,⟨.us (.ext (.vw [true,false,false,false] X)),false⟩,⟨.us (.ext (.tab (.bs O))),true⟩,⟨.us (.wr (putsW s Y k)),true⟩,⟨.us (.ext (.vw [true,false,false,false] Y)),false⟩]:Nat→Mem Td)) (N:=Y.length) (Ux:=fun k x=>match x with|.exit 3=>some ([],([⟨.us (.ext (.vw [true,false,false,false] R)),false⟩,⟨.us (.ext (.vw [true,false,false,false] X)),false⟩,⟨.us (.ext (.tab (.bs O))),true⟩,⟨.us (.wr (putsW s Y Y.length)),true⟩,⟨.us (.ext (.vw [true,false,false,false] Y)),false⟩]:Mem Td))|_=>none) (X:=fun _ _=>True) (J:=fun k=>k≤Y.length) (fun k=>by kernel_rfl) (Nat.zero_le _) (fun k hk hJ f=>?_) (fun K hK k x U hk hU hX=>?_)
 ·rw [hS0]
  cases hT:decide ((k:Int)<(Y.length:Int)) with
  |false=>
   have hke:k=Y.length:=by have:=of_decide_eq_false hT;omega
   exact rnd_xD (⟨Try.prog,[(120,ctrF Id' (C_dputY (putsW s Y k)) hardD)],[],dkHo,Id'.one,60⟩:Sy Td) rfl ((fun (W0:World) (G:Nat→Prop)=>SyOk.mk2 Try.mixed dkHo_ok (FnsR.cons ((ctrF_ok Try.call120 (C_dputY_ok (putsW s Y k)))) (FnsR.nil)) EqsOk.nil) W0 G) (dbi_x R X Y O (putsW s Y k) (putsW s Y Y.length) (k:Int) ((k+1:Nat):Int) k f hT (by rw [hke])) rfl  trivial
  |true=>
   have hk1:=of_decide_eq_true hT
   have hn:=putsW_n s Y k
   have hW:IntKind.i64.wrap ((k:Int)+1)=((k+1:Nat):Int):=by rw [IntWalk.i64_in _ (by omega)];omega
   exact rnd_nD (⟨Try.prog,[(120,ctrF Id' (C_dputY (putsW s Y (k+1))) hardD)],[],dkHo,Id'.one,60⟩:Sy Td) rfl ((fun (W0:World) (G:Nat→Prop)=>SyOk.mk2 Try.mixed dkHo_ok (FnsR.cons ((ctrF_ok Try.call120 (C_dputY_ok (putsW s Y (k+1))))) (FnsR.nil)) EqsOk.nil) W0 G) (dbi_n R X Y O (putsW s Y k) (putsW s Y (k+1)) (k:Int) ((k+1:Nat):Int) k f hT hW (by omega) (by omega) ⟨by rw [Int.toNat_natCast];rfl⟩) rfl  rfl (by omega) (by omega)
 ·revert hU
  match x with
  |.normal=>intro hU;cases hU
  |.ret=>intro hU;cases hU
  |.exit n=>
   intro hU
   by_cases h:n=3
   ·subst h;simp only [Option.some.injEq] at hU;subst hU;exact hK
   ·exfalso;split at hU
    ·rename_i he;cases he;exact h rfl
    ·cases hU
end Go.Proofs.Ytdenmoiaiemokaa
set_option linter.unusedVariables false
set_option linter.unusedSimpArgs false
namespace Go.Proofs.Ytdenmoiaiemokaa
open Go.RowKit
def m5 (X:List Rw):Int:=if (5:Int)<(X.length:Int) then (5:Int) else (X.length:Int)
def blkP (Y:List Rw):List UInt8:=(putsW .new Y Y.length).out++List.replicate (IntKind.i64.wrap ((128:Int) - ((putsW .new Y Y.length).out.length:Int))).toNat 0
set_option maxRecDepth 100000 in
theorem dbo_n (R X X2 Y:List Rw) (O O2:List (List UInt8)) (k:Nat) (f:Nat→Value) (h0:decide ((X.length:Int)>0)=true) (h1:(0:Int)≤(0:Int)∧(0:Int)≤m5 X∧m5 X≤(X.length:Int)) (h2:((List.take ((m5 X).toNat - Int.toNat 0) (List.drop (Int.toNat 0) X)).length:Int)=(Y.length:Int)) (h3:List.take ((m5 X).toNat - Int.toNat 0) (List.drop (Int.toNat 0) X)=Y) (h4:List.take ((X.length:Int).toNat - (m5 X).toNat) (List.drop (m5 X).toNat X)=X2) (h5:O++[blkP Y]=O2) (h6:(putsW WS.new Y Y.length).n≤500000000) (h7:(TB.bs O).n+(TB.bs [blkP Y]).n≤100000) (h8:0≤IntKind.i64.wrap ((128:Int) - ((putsW WS.new Y Y.length).out.length:Int))) (h9:(putsW WS.new Y Y.length).out.length+(IntKind.i64.wrap ((128:Int) - ((putsW WS.new Y Y.length).out.length:Int))).toNat≤1000000) (h10:(0:Int)≤m5 X∧m5 X≤(X.length:Int)∧(X.length:Int)≤(X.length:Int)):∃ qs,alN Id' 1 [(0,.c (.one (.obj 1))),(4,.c (.one (.obj 2)))] [⟨.us (.ext (.vw [true,false,false,false] R)),false⟩,⟨.us (.ext (.vw [true,false,false,false] X2)),false⟩,⟨.us (.ext (.tab (.bs O2))),true⟩] ((symC (⟨Try.prog,[F_new (ξ:=Dk) (hx:=hardDk),F_doneP (ξ:=Dk) (hx:=hardDk)],[],dkHo,Id'.one,60⟩:Sy Td) [(10,(lpG Id' 59 (hdC (loopsC (bodyOf Try.f58)) 1) 5 [(34,.c (.one (.v (.int .i64 ((0:Nat):Int)))))] [(6,.c (.one (.obj 3))),(32,.c (.one (.obj 4))),(33,.c (.one (.v (.int .i64 (Y.length:Int)))))] [⟨.us (.ext (.vw [true,false,false,false] R)),false⟩,⟨.us (.ext (.vw [true,false,false,false] X)),false⟩,⟨.us (.ext (.tab (.bs O))),true⟩,⟨.us (.wr (putsW .new Y 0)),true⟩,⟨.us (.ext (.vw [true,false,false,false] Y)),false⟩] (.leaf (.exit 3) [] [⟨.us (.ext (.vw [true,false,false,false] R)),false⟩,⟨.us (.ext (.vw [true,false,false,false] X)),false⟩,⟨.us (.ext (.tab (.bs O))),true⟩,⟨.us (.wr (putsW .new Y Y.length)),true⟩,⟨.us (.ext (.vw [true,false,false,false] Y)),false⟩])))] 59 (hdC (loopsC (bodyOf Try.f58)) 0) ⟨[(0,.c (.one (.obj 1))),(4,.c (.one (.obj 2)))]++anyB' (writesC (hdC (loopsC (bodyOf Try.f58)) 0)) ([]++tabV f 59),[⟨.us (.ext (.vw [true,false,false,false] R)),false⟩,⟨.us (.ext (.vw [true,false,false,false] X)),false⟩,⟨.us (.ext (.tab (.bs O))),true⟩],0⟩).al [true])=some qs∧∀ q∈qs,q:=
 ⟨[decide ((↑X.length:Int)>(0:Int))=true,(0:Int)≤(0:Int)∧((0:Int)≤if (5:Int)<(↑X.length:Int) then (5:Int) else (↑X.length:Int))∧(if (5:Int)<(↑X.length:Int) then (5:Int) else (↑X.length:Int))≤(↑X.length:Int),Value.int IntKind.i64 (↑(List.take ((if (5:Int)<(↑X.length:Int) then (5:Int) else (↑X.length:Int)).toNat - Int.toNat (0:Int)) (List.drop (Int.toNat (0:Int)) X)).length:Int)=Value.int IntKind.i64 (↑Y.length:Int),Th.ext (Dk.vw [true,false,false,false] R)=Th.ext (Dk.vw [true,false,false,false] R),Th.ext (Dk.vw [true,false,false,false] X)=Th.ext (Dk.vw [true,false,false,false] X),Th.ext (Dk.tab (TB.bs O))=Th.ext (Dk.tab (TB.bs O)),(Th.wr .new:Td)=Th.wr .new,(Th.ext (Dk.vw [true,false,false,false] (List.take ((m5 X).toNat - Int.toNat 0) (List.drop (Int.toNat 0) X))):Td)=Th.ext (Dk.vw [true,false,false,false] Y),Value.int IntKind.i64 (Int.ofNat 0)=Value.int IntKind.i64 (Int.ofNat (0:Nat)),(putsW WS.new Y Y.length).n≤(500000000:Nat),(TB.bs O).n+(TB.bs [(putsW WS.new Y Y.length).out++List.replicate (IntKind.i64.wrap ((128:Int) - (↑(putsW WS.new Y Y.length).out.length:Int))).toNat (0:UInt8)]).n≤(100000:Nat),(0:Int)≤IntKind.i64.wrap ((128:Int) - (↑(putsW WS.new Y Y.length).out.length:Int)),(putsW WS.new Y Y.length).out.length+(IntKind.i64.wrap ((128:Int) - (↑(putsW WS.new Y Y.length).out.length:Int))).toNat≤(1000000:Nat),((0:Int)≤if (5:Int)<(↑X.length:Int) then (5:Int) else (↑X.length:Int))∧(if (5:Int)<(↑X.length:Int) then (5:Int) else (↑X.length:Int))≤(↑X.length:Int)∧(↑X.length:Int)≤(↑X.length:Int),Th.ext (Dk.vw [true,false,false,false] R)=Th.ext (Dk.vw [true,false,false,false] R),(Th.ext (Dk.vw [true,false,false,false] (List.take ((X.length:Int).toNat - (m5 X).toNat) (List.drop (m5 X).toNat X))):Td)=Th.ext (Dk.vw [true,false,false,false] X2),(Th.ext (Dk.tab (TB.bs (O++[blkP Y]))):Td)=Th.ext (Dk.tab (TB.bs O2))],by kernel_rfl,(by refine mcons ?_ (mcons ?_ (mcons ?_ (mcons ?_ (mcons ?_ (mcons ?_ (mcons ?_ (mcons ?_ (mcons ?_ (mcons ?_ (mcons ?_ (mcons ?_ (mcons ?_ (mcons ?_ (mcons ?_ (mcons ?_ (mcons ?_ mnil))))))))))))))))<;>first|(exact congrArg (fun x=>(Th.ext (Dk.vw [true,false,false,false] x):Td)) h3)|(exact congrArg (fun x=>(Th.ext (Dk.vw [true,false,false,false] x):Td)) h4)|(exact congrArg (fun x=>(Th.ext (Dk.tab (TB.bs x)):Td)) h5)|(exact congrArg _ h2)|rfl|exact h0|exact h1|exact h2|exact h3|exact h4|exact h5|exact h6|exact h7|exact h8|exact h9|exact h10|trivial|(exact congrArg _ h2))⟩
set_option maxRecDepth 100000 in
theorem dbo_x (R X X2 Y:List Rw) (O O2:List (List UInt8)) (k:Nat) (f:Nat→Value) (h0:decide ((X.length:Int)>0)=false) (h1:X=X2) (h2:O=O2):∃ qs,alX Id' 1 1 [(4,.c (.one (.obj 2)))] [⟨.us (.ext (.vw [true,false,false,false] R)),false⟩,⟨.us (.ext (.vw [true,false,false,false] X2)),false⟩,⟨.us (.ext (.tab (.bs O2))),true⟩] ((symC (⟨Try.prog,[F_new (ξ:=Dk) (hx:=hardDk),F_doneP (ξ:=Dk) (hx:=hardDk)],[],dkHo,Id'.one,60⟩:Sy Td) [(10,(lpG Id' 59 (hdC (loopsC (bodyOf Try.f58)) 1) 5 [(34,.c (.one (.v (.int .i64 ((0:Nat):Int)))))] [(6,.c (.one (.obj 3))),(32,.c (.one (.obj 4))),(33,.c (.one (.v (.int .i64 (Y.length:Int)))))] [⟨.us (.ext (.vw [true,false,false,false] R)),false⟩,⟨.us (.ext (.vw [true,false,false,false] X)),false⟩,⟨.us (.ext (.tab (.bs O))),true⟩,⟨.us (.wr (putsW .new Y 0)),true⟩,⟨.us (.ext (.vw [true,false,false,false] Y)),false⟩] (.leaf (.exit 3) [] [⟨.us (.ext (.vw [true,false,false,false] R)),false⟩,⟨.us (.ext (.vw [true,false,false,false] X)),false⟩,⟨.us (.ext (.tab (.bs O))),true⟩,⟨.us (.wr (putsW .new Y Y.length)),true⟩,⟨.us (.ext (.vw [true,false,false,false] Y)),false⟩])))] 59 (hdC (loopsC (bodyOf Try.f58)) 0) ⟨[(0,.c (.one (.obj 1))),(4,.c (.one (.obj 2)))]++anyB' (writesC (hdC (loopsC (bodyOf Try.f58)) 0)) ([]++tabV f 59),[⟨.us (.ext (.vw [true,false,false,false] R)),false⟩,⟨.us (.ext (.vw [true,false,false,false] X)),false⟩,⟨.us (.ext (.tab (.bs O))),true⟩],0⟩).al [false])=some qs∧∀ q∈qs,q:=
 ⟨[decide ((↑X.length:Int)>(0:Int))=false,Th.ext (Dk.vw [true,false,false,false] R)=Th.ext (Dk.vw [true,false,false,false] R),Th.ext (Dk.vw [true,false,false,false] X)=Th.ext (Dk.vw [true,false,false,false] X2),Th.ext (Dk.tab (TB.bs O))=Th.ext (Dk.tab (TB.bs O2))],by kernel_rfl,(by refine mcons ?_ (mcons ?_ (mcons ?_ (mcons ?_ mnil)))<;>first|(exact congrArg (fun x=>(Th.ext (Dk.vw [true,false,false,false] x):Td)) h1)|(exact congrArg (fun x=>(Th.ext (Dk.tab (TB.bs x)):Td)) h2)|rfl|exact h0|exact h1|exact h2|trivial)⟩
end Go.Proofs.Ytdenmoiaiemokaa
set_option linter.unusedVariables false
namespace Go.Proofs.Ytdenmoiaiemokaa
open Go.RowKit
theorem wput_len (s:WS) (x n:Int):(s.put x n).bl.length≤s.bl.length+n.toNat:=by
 simp only [WS.put,putL]
 split
 ·rw [List.length_append,bitsOf_length];exact Nat.le_refl _
 ·omega
theorem putN_len (s:WS) (nm:ByteArray):∀ k,(putN s nm k).bl.length≤s.bl.length+8 * k
 |0=>Nat.le_refl _
 |k+1=>by
  have:=putN_len s nm k
  have h:=wput_len (putN s nm k) (chI nm (k:Int)) 8
  show ((putN s nm k).put (chI nm (k:Int)) 8).bl.length≤_
  have:(8:Int).toNat=8:=rfl
  omega
theorem putW_len (s:WS) (nm:ByteArray) (a b c:Int):(putW s nm a b c).bl.length≤s.bl.length+172:=by
 unfold putW
 have h0:=putN_len ((((s.put (IntKind.u64.wrap (nm.size:Int)) 5).put (IntKind.u64.wrap a) 6).put (IntKind.u64.wrap b) 31).put (IntKind.u64.wrap c) 2) nm 16
 have h1:=wput_len s (IntKind.u64.wrap (nm.size:Int)) 5
 have h2:=wput_len (s.put (IntKind.u64.wrap (nm.size:Int)) 5) (IntKind.u64.wrap a) 6
 have h3:=wput_len ((s.put (IntKind.u64.wrap (nm.size:Int)) 5).put (IntKind.u64.wrap a) 6) (IntKind.u64.wrap b) 31
 have h4:=wput_len (((s.put (IntKind.u64.wrap (nm.size:Int)) 5).put (IntKind.u64.wrap a) 6).put (IntKind.u64.wrap b) 31) (IntKind.u64.wrap c) 2
 have e5:(5:Int).toNat=5:=rfl
 have e6:(6:Int).toNat=6:=rfl
 have e31:(31:Int).toNat=31:=rfl
 have e2:(2:Int).toNat=2:=rfl
 omega
theorem putsW_len (s:WS) (Y:List Rw):∀ k,(putsW s Y k).bl.length≤s.bl.length+172 * k
 |0=>Nat.le_refl _
 |k+1=>by
  have:=putsW_len s Y k
  have h:=putW_len (putsW s Y k) ((Y.getD k Rw.zero).ss.getD 0 ⟨#[]⟩) ((Y.getD k Rw.zero).is.getD 0 0) ((Y.getD k Rw.zero).is.getD 1 0) ((Y.getD k Rw.zero).is.getD 2 0)
  show (putR (putsW s Y k) (Y.getD k Rw.zero)).bl.length≤_
  unfold putR
  omega
theorem out_len (Y:List Rw) (h:Y.length≤5):(putsW .new Y Y.length).out.length≤128:=by
 have:=putsW_len .new Y Y.length
 have h0:(WS.new).bl.length=0:=rfl
 unfold WS.out
 split
 ·rw [packed_length];omega
 ·exact Nat.zero_le _
theorem w128 {Y:List Rw} (h:Y.length≤5):IntKind.i64.wrap ((128:Int) - ((putsW WS.new Y Y.length).out.length:Int))=(128:Int) - ((putsW WS.new Y Y.length).out.length:Int):=by
 have:=out_len Y h
 exact IntWalk.i64_in _ (by omega)
theorem m5_nat (X:List Rw):(m5 X).toNat=min 5 X.length:=by unfold m5;split<;>omega
theorem m5_le (X:List Rw):0≤m5 X∧m5 X≤(X.length:Int):=by unfold m5;split<;>omega
theorem take_m5 (X:List Rw):List.take ((m5 X).toNat - Int.toNat 0) (List.drop (Int.toNat 0) X)=X.take 5:=by
 rw [m5_nat]
 show List.take (min 5 X.length - 0) (List.drop 0 X)=X.take 5
 rw [List.drop_zero,Nat.sub_zero,List.take_eq_take_iff];omega
theorem drop_m5 (X:List Rw):List.take ((X.length:Int).toNat - (m5 X).toNat) (List.drop (m5 X).toNat X)=X.drop 5:=by
 rw [m5_nat,Int.toNat_natCast,List.take_of_length_le (by rw [List.length_drop];omega)]
 rcases Nat.le_total 5 X.length with h|h
 ·rw [Nat.min_eq_left h]
 ·rw [Nat.min_eq_right h,List.drop_of_length_le h,List.drop_length]
def blksP (R:List Rw):Nat→List (List UInt8)
 |0=>[]
 |k+1=>blksP R k++[blkP ((R.drop (5 * k)).take 5)]
def nbR (R:List Rw):Nat:=(R.length+4) / 5
theorem blksP_len (R:List Rw):∀ k,(blksP R k).length=k
 |0=>rfl
 |k+1=>by simp [blksP,blksP_len R k]
end Go.Proofs.Ytdenmoiaiemokaa
set_option linter.unusedVariables false
set_option linter.unusedSimpArgs false
namespace Go.Proofs.Ytdenmoiaiemokaa
open Go.RowKit
set_option maxRecDepth 100000 in
theorem dbo_lp (R:List Rw) (hR:R.length≤1000) {W0:World} {G:Nat→Prop} (S0:Sy Td) (hS0:S0.P=Try.prog):LoopSound S0 Id' W0 G 59 (hdC (loopsC (bodyOf Try.f58)) 0) (lpG Id' 59 (hdC (loopsC (bodyOf Try.f58)) 0) 1 [(0,.c (.one (.obj 1))),(4,.c (.one (.obj 2)))] [] [⟨.us (.ext (.vw [true,false,false,false] R)),false⟩,⟨.us (.ext (.vw [true,false,false,false] (R.drop (5 * 0)))),false⟩,⟨.us (.ext (.tab (.bs (blksP R 0)))),true⟩] (.leaf (.exit 1) [(4,.c (.one (.obj 2)))] [⟨.us (.ext (.vw [true,false,false,false] R)),false⟩,⟨.us (.ext (.vw [true,false,false,false] (R.drop (5 * nbR R)))),false⟩,⟨.us (.ext (.tab (.bs (blksP R (nbR R))))),true⟩])):=by
 refine lp_sound (V:=fun k=>[(0,.c (.one (.obj 1))),(4,.c (.one (.obj 2)))]) (M:=(fun k=>[⟨.us (.ext (.vw [true,false,false,false] R)),false⟩,⟨.us (.ext (.vw [true,false,false,false] (R.drop (5 * k)))),false⟩,⟨.us (.ext (.tab (.bs (blksP R k)))),true⟩]:Nat→Mem Td)) (N:=nbR R) (Ux:=fun k x=>match x with|.exit 1=>some ([(4,.c (.one (.obj 2)))],([⟨.us (.ext (.vw [true,false,false,false] R)),false⟩,⟨.us (.ext (.vw [true,false,false,false] (R.drop (5 * nbR R)))),false⟩,⟨.us (.ext (.tab (.bs (blksP R (nbR R))))),true⟩]:Mem Td))|_=>none) (X:=fun _ _=>True) (J:=fun k=>k≤nbR R) (fun k=>by kernel_rfl) (Nat.zero_le _) (fun k hk hJ f=>?_) (fun K hK k x U hk hU hX=>?_)
 ·rw [hS0]
  have hXl:(R.drop (5 * k)).length=R.length - 5 * k:=List.length_drop ..
  have hYl:((R.drop (5 * k)).take 5).length≤5:=List.length_take_le ..
  cases hT:decide (((R.drop (5 * k)).length:Int)>0) with
  |false=>
   have hke:k=nbR R:=by have:=of_decide_eq_false hT;unfold nbR at hJ ⊢;omega
   obtain ⟨ps,h1,h2⟩:=dbo_x R (R.drop (5 * k)) (R.drop (5 * nbR R)) ((R.drop (5 * k)).take 5) (blksP R k) (blksP R (nbR R)) k f hT (by rw [hke]) (by rw [hke])
   exact rnd_x (⟨Try.prog,[F_new (ξ:=Dk) (hx:=hardDk),F_doneP (ξ:=Dk) (hx:=hardDk)],[],dkHo,Id'.one,60⟩:Sy Td) [(10,(lpG Id' 59 (hdC (loopsC (bodyOf Try.f58)) 1) 5 [(34,.c (.one (.v (.int .i64 ((0:Nat):Int)))))] [(6,.c (.one (.obj 3))),(32,.c (.one (.obj 4))),(33,.c (.one (.v (.int .i64 (((R.drop (5 * k)).take 5).length:Int)))))] [⟨.us (.ext (.vw [true,false,false,false] R)),false⟩,⟨.us (.ext (.vw [true,false,false,false] (R.drop (5 * k)))),false⟩,⟨.us (.ext (.tab (.bs (blksP R k)))),true⟩,⟨.us (.wr (putsW .new ((R.drop (5 * k)).take 5) 0)),true⟩,⟨.us (.ext (.vw [true,false,false,false] ((R.drop (5 * k)).take 5))),false⟩] (.leaf (.exit 3) [] [⟨.us (.ext (.vw [true,false,false,false] R)),false⟩,⟨.us (.ext (.vw [true,false,false,false] (R.drop (5 * k)))),false⟩,⟨.us (.ext (.tab (.bs (blksP R k)))),true⟩,⟨.us (.wr (putsW .new ((R.drop (5 * k)).take 5) ((R.drop (5 * k)).take 5).length)),true⟩,⟨.us (.ext (.vw [true,false,false,false] ((R.drop (5 * k)).take 5))),false⟩])))] rfl ((fun (W0:World) (G:Nat→Prop)=>SyOk.mk2 Try.mixed dkHo_ok (FnsR.cons (F_new_ok (J:=dkI) (hx:=hardDk)) (FnsR.cons (F_doneP_ok (J:=dkI) (hx:=hardDk)) (FnsR.nil))) EqsOk.nil) W0 G) (LpsOk.cons (by kernel_rfl) (dbi_lp R (R.drop (5 * k)) ((R.drop (5 * k)).take 5) (blksP R k) .new (by omega) (by decide) _ rfl) (LpsOk.nil _)) (m2:=_) (fun w e h=>h) [false] 1 ps h1 h2 rfl trivial
  |true=>
   have hk1:=of_decide_eq_true hT
   have hk2:k<nbR R:=by unfold nbR at hJ ⊢;omega
   have ht:=take_m5 (R.drop (5 * k))
   have hd:=drop_m5 (R.drop (5 * k))
   have hm:=m5_le (R.drop (5 * k))
   have ho:=out_len _ hYl
   have hw:=w128 hYl
   have hbl:(blksP R k).length=k:=blksP_len R k
   have hn:(putsW WS.new ((R.drop (5 * k)).take 5) ((R.drop (5 * k)).take 5).length).n≤500000000:=by rw [putsW_n];show 0+_≤_;omega
   obtain ⟨ps,h1,h2⟩:=dbo_n R (R.drop (5 * k)) (R.drop (5 * (k+1))) ((R.drop (5 * k)).take 5) (blksP R k) (blksP R (k+1)) k f hT ⟨Int.le_refl _,hm.1,hm.2⟩ (by rw [ht]) ht (by rw [hd,List.drop_drop,Nat.mul_succ]) rfl hn (by
    show (blksP R k).length+1≤100000
    unfold nbR at hk2;omega) (by rw [hw];omega) (by rw [hw];omega) ⟨hm.1,hm.2,Int.le_refl _⟩
   exact rnd_n (⟨Try.prog,[F_new (ξ:=Dk) (hx:=hardDk),F_doneP (ξ:=Dk) (hx:=hardDk)],[],dkHo,Id'.one,60⟩:Sy Td) [(10,(lpG Id' 59 (hdC (loopsC (bodyOf Try.f58)) 1) 5 [(34,.c (.one (.v (.int .i64 ((0:Nat):Int)))))] [(6,.c (.one (.obj 3))),(32,.c (.one (.obj 4))),(33,.c (.one (.v (.int .i64 (((R.drop (5 * k)).take 5).length:Int)))))] [⟨.us (.ext (.vw [true,false,false,false] R)),false⟩,⟨.us (.ext (.vw [true,false,false,false] (R.drop (5 * k)))),false⟩,⟨.us (.ext (.tab (.bs (blksP R k)))),true⟩,⟨.us (.wr (putsW .new ((R.drop (5 * k)).take 5) 0)),true⟩,⟨.us (.ext (.vw [true,false,false,false] ((R.drop (5 * k)).take 5))),false⟩] (.leaf (.exit 3) [] [⟨.us (.ext (.vw [true,false,false,false] R)),false⟩,⟨.us (.ext (.vw [true,false,false,false] (R.drop (5 * k)))),false⟩,⟨.us (.ext (.tab (.bs (blksP R k)))),true⟩,⟨.us (.wr (putsW .new ((R.drop (5 * k)).take 5) ((R.drop (5 * k)).take 5).length)),true⟩,⟨.us (.ext (.vw [true,false,false,false] ((R.drop (5 * k)).take 5))),false⟩])))] rfl ((fun (W0:World) (G:Nat→Prop)=>SyOk.mk2 Try.mixed dkHo_ok (FnsR.cons (F_new_ok (J:=dkI) (hx:=hardDk)) (FnsR.cons (F_doneP_ok (J:=dkI) (hx:=hardDk)) (FnsR.nil))) EqsOk.nil) W0 G) (LpsOk.cons (by kernel_rfl) (dbi_lp R (R.drop (5 * k)) ((R.drop (5 * k)).take 5) (blksP R k) .new (by omega) (by decide) _ rfl) (LpsOk.nil _)) (m2:=_) (fun w e h=>h) [true] ps h1 h2 rfl rfl hk2 (by omega)
 ·revert hU
  match x with
  |.normal=>intro hU;cases hU
  |.ret=>intro hU;cases hU
  |.exit n=>
   intro hU
   by_cases h:n=1
   ·subst h;simp only [Option.some.injEq] at hU;subst hU;exact hK
   ·exfalso;split at hU
    ·rename_i he;cases he;exact h rfl
    ·cases hU
end Go.Proofs.Ytdenmoiaiemokaa
set_option linter.unusedVariables false
set_option linter.unusedSimpArgs false
namespace Go.Proofs.Ytdenmoiaiemokaa
open Go.RowKit
theorem nil_tab0 {L:List (List UInt8)} (h:L=[]):∀ w,Id'.holds (Th.ext (Dk.tab (.bs L)):Td) w nilV∧∀ j,¬ Id'.foot (Th.ext (Dk.tab (.bs L)):Td) w nilV j:=by
 subst h
 refine fun w=>⟨⟨(fun r hr=>by cases hr),(fun r hr=>by cases hr),[],rfl,⟨0,Nat.zero_le _,owns_nilV w 0 _ _⟩,fun i v r h=>by simp at h⟩,fun j h=>?_⟩
 rcases h with h|⟨i,r,v,h,_⟩
 ·cases h
 ·simp [TB.R] at h
set_option maxRecDepth 100000 in
theorem dbkA_w0 (R:List Rw) (h0:(!allI 1 R.length (riseI R))=true) (h1:R.length≤100000):∃ qs,wayO Id' ([⟨.us (.ext (.vw [true,false,false,false] R)),false⟩]:Mem Td).length [⟨.us (.ext (.vw [true,false,false,false] R)),false⟩,⟨.us (.ext (.tab (.bs []))),true⟩] (.tup [.one (.obj 1),.one (.v (.int .i64 2))]) ((runFn (⟨Try.prog,[(115,ctrF Id' C_drise hardD),(116,ctrF Id' C_ctf hardD)],[],dkHo,Id'.one,60⟩:Sy Td) [(6,(lpG Id' 59 (hdC (loopsC (bodyOf Try.f58)) 0) 1 [(0,.c (.one (.obj 1))),(4,.c (.one (.obj 2)))] [] [⟨.us (.ext (.vw [true,false,false,false] R)),false⟩,⟨.us (.ext (.vw [true,false,false,false] (R.drop (5 * 0)))),false⟩,⟨.us (.ext (.tab (.bs (blksP R 0)))),true⟩] (.leaf (.exit 1) [(4,.c (.one (.obj 2)))] [⟨.us (.ext (.vw [true,false,false,false] R)),false⟩,⟨.us (.ext (.vw [true,false,false,false] (R.drop (5 * nbR R)))),false⟩,⟨.us (.ext (.tab (.bs (blksP R (nbR R))))),true⟩])))] Try.f58 [.one (.obj 0)] [⟨.us (.ext (.vw [true,false,false,false] R)),false⟩]).al [true])=some qs∧∀ q∈qs,q:=
 ⟨[(!allI (1:Nat) R.length (riseI R))=true,(!allI (1:Nat) R.length (riseI R))=true,R.length≤(100000:Nat),Th.ext (Dk.vw [true,false,false,false] R)=Th.ext (Dk.vw [true,false,false,false] R),∀ (w:World),Id'.holds (Th.ext (Dk.tab (TB.bs []))) w nilV∧∀ (j:Nat),¬Id'.foot (Th.ext (Dk.tab (TB.bs []))) w nilV j,Value.int IntKind.i64 (Int.ofNat 2)=Value.int IntKind.i64 (Int.ofNat 2)],by kernel_rfl,(by refine mcons ?_ (mcons ?_ (mcons ?_ (mcons ?_ (mcons ?_ (mcons ?_ mnil)))))<;>first|rfl|exact h0|exact h1|trivial|(exact nil_tab0 rfl))⟩
set_option maxRecDepth 100000 in
theorem dbkB_w0 (R:List Rw) (h0:(!allI 1 R.length (riseI R))=false) (h1:(!allI 0 R.length (isI R))=true) (h2:R.length≤100000):∃ qs,wayO Id' ([⟨.us (.ext (.vw [true,false,false,false] R)),false⟩]:Mem Td).length [⟨.us (.ext (.vw [true,false,false,false] R)),false⟩,⟨.us (.ext (.tab (.bs []))),true⟩] (.tup [.one (.obj 1),.one (.v (.int .i64 2))]) ((runFn (⟨Try.prog,[(115,ctrF Id' C_drise hardD),(116,ctrF Id' C_ctf hardD)],[],dkHo,Id'.one,60⟩:Sy Td) [(6,(lpG Id' 59 (hdC (loopsC (bodyOf Try.f58)) 0) 1 [(0,.c (.one (.obj 1))),(4,.c (.one (.obj 2)))] [] [⟨.us (.ext (.vw [true,false,false,false] R)),false⟩,⟨.us (.ext (.vw [true,false,false,false] (R.drop (5 * 0)))),false⟩,⟨.us (.ext (.tab (.bs (blksP R 0)))),true⟩] (.leaf (.exit 1) [(4,.c (.one (.obj 2)))] [⟨.us (.ext (.vw [true,false,false,false] R)),false⟩,⟨.us (.ext (.vw [true,false,false,false] (R.drop (5 * nbR R)))),false⟩,⟨.us (.ext (.tab (.bs (blksP R (nbR R))))),true⟩])))] Try.f58 [.one (.obj 0)] [⟨.us (.ext (.vw [true,false,false,false] R)),false⟩]).al [false,true])=some qs∧∀ q∈qs,q:=
 ⟨[(!allI (1:Nat) R.length (riseI R))=false,R.length≤(100000:Nat),(!allI (1:Nat) R.length (riseI R))=false,R.length≤(100000:Nat),(!allI (0:Nat) R.length (isI R))=true,Th.ext (Dk.vw [true,false,false,false] R)=Th.ext (Dk.vw [true,false,false,false] R),∀ (w:World),Id'.holds (Th.ext (Dk.tab (TB.bs []))) w nilV∧∀ (j:Nat),¬Id'.foot (Th.ext (Dk.tab (TB.bs []))) w nilV j,Value.int IntKind.i64 (Int.ofNat 2)=Value.int IntKind.i64 (Int.ofNat 2)],by kernel_rfl,(by refine mcons ?_ (mcons ?_ (mcons ?_ (mcons ?_ (mcons ?_ (mcons ?_ (mcons ?_ (mcons ?_ mnil)))))))<;>first|rfl|exact h0|exact h1|exact h2|trivial|(exact nil_tab0 rfl))⟩
set_option maxRecDepth 100000 in
theorem dbkC_w0 (R:List Rw) (h0:(!allI 1 R.length (riseI R))=false) (h1:(!allI 0 R.length (isI R))=false) (h2:decide ((R.length:Int)>24)=true) (h3:R.length≤100000):∃ qs,wayO Id' ([⟨.us (.ext (.vw [true,false,false,false] R)),false⟩]:Mem Td).length [⟨.us (.ext (.vw [true,false,false,false] R)),false⟩,⟨.us (.ext (.tab (.bs []))),true⟩] (.tup [.one (.obj 1),.one (.v (.int .i64 8))]) ((runFn (⟨Try.prog,[(115,ctrF Id' C_drise hardD),(116,ctrF Id' C_ctf hardD)],[],dkHo,Id'.one,60⟩:Sy Td) [(6,(lpG Id' 59 (hdC (loopsC (bodyOf Try.f58)) 0) 1 [(0,.c (.one (.obj 1))),(4,.c (.one (.obj 2)))] [] [⟨.us (.ext (.vw [true,false,false,false] R)),false⟩,⟨.us (.ext (.vw [true,false,false,false] (R.drop (5 * 0)))),false⟩,⟨.us (.ext (.tab (.bs (blksP R 0)))),true⟩] (.leaf (.exit 1) [(4,.c (.one (.obj 2)))] [⟨.us (.ext (.vw [true,false,false,false] R)),false⟩,⟨.us (.ext (.vw [true,false,false,false] (R.drop (5 * nbR R)))),false⟩,⟨.us (.ext (.tab (.bs (blksP R (nbR R))))),true⟩])))] Try.f58 [.one (.obj 0)] [⟨.us (.ext (.vw [true,false,false,false] R)),false⟩]).al [false,false,true])=some qs∧∀ q∈qs,q:=
 ⟨[(!allI (1:Nat) R.length (riseI R))=false,R.length≤(100000:Nat),(!allI (1:Nat) R.length (riseI R))=false,R.length≤(100000:Nat),(!allI (0:Nat) R.length (isI R))=false,decide ((↑R.length:Int)>(24:Int))=true,Th.ext (Dk.vw [true,false,false,false] R)=Th.ext (Dk.vw [true,false,false,false] R),∀ (w:World),Id'.holds (Th.ext (Dk.tab (TB.bs []))) w nilV∧∀ (j:Nat),¬Id'.foot (Th.ext (Dk.tab (TB.bs []))) w nilV j,Value.int IntKind.i64 (Int.ofNat 8)=Value.int IntKind.i64 (Int.ofNat 8)],by kernel_rfl,(by refine mcons ?_ (mcons ?_ (mcons ?_ (mcons ?_ (mcons ?_ (mcons ?_ (mcons ?_ (mcons ?_ (mcons ?_ mnil))))))))<;>first|rfl|exact h0|exact h1|exact h2|exact h3|trivial|(exact nil_tab0 rfl))⟩
set_option maxRecDepth 100000 in
theorem dbkD_w0 (R:List Rw) (h0:(!allI 1 R.length (riseI R))=false) (h1:(!allI 0 R.length (isI R))=false) (h2:decide ((R.length:Int)>24)=false) (h3:R.length≤100000):∃ qs,wayO Id' ([⟨.us (.ext (.vw [true,false,false,false] R)),false⟩]:Mem Td).length [⟨.us (.ext (.vw [true,false,false,false] R)),false⟩,⟨.us (.ext (.tab (.bs (blksP R (nbR R))))),true⟩] (.tup [.one (.obj 1),.one (.v (.int .i64 0))]) ((runFn (⟨Try.prog,[(115,ctrF Id' C_drise hardD),(116,ctrF Id' C_ctf hardD)],[],dkHo,Id'.one,60⟩:Sy Td) [(6,(lpG Id' 59 (hdC (loopsC (bodyOf Try.f58)) 0) 1 [(0,.c (.one (.obj 1))),(4,.c (.one (.obj 2)))] [] [⟨.us (.ext (.vw [true,false,false,false] R)),false⟩,⟨.us (.ext (.vw [true,false,false,false] (R.drop (5 * 0)))),false⟩,⟨.us (.ext (.tab (.bs (blksP R 0)))),true⟩] (.leaf (.exit 1) [(4,.c (.one (.obj 2)))] [⟨.us (.ext (.vw [true,false,false,false] R)),false⟩,⟨.us (.ext (.vw [true,false,false,false] (R.drop (5 * nbR R)))),false⟩,⟨.us (.ext (.tab (.bs (blksP R (nbR R))))),true⟩])))] Try.f58 [.one (.obj 0)] [⟨.us (.ext (.vw [true,false,false,false] R)),false⟩]).al [false,false,false])=some qs∧∀ q∈qs,q:=
 ⟨[(!allI (1:Nat) R.length (riseI R))=false,R.length≤(100000:Nat),(!allI (1:Nat) R.length (riseI R))=false,R.length≤(100000:Nat),(!allI (0:Nat) R.length (isI R))=false,decide ((↑R.length:Int)>(24:Int))=false,Th.ext (Dk.vw [true,false,false,false] R)=Th.ext (Dk.vw [true,false,false,false] R),Th.ext (Dk.vw [true,false,false,false] R)=Th.ext (Dk.vw [true,false,false,false] R),∀ (w:World),Id'.holds (Th.ext (Dk.tab (TB.bs (blksP R (0:Nat))))) w nilV∧∀ (j:Nat),¬Id'.foot (Th.ext (Dk.tab (TB.bs (blksP R (0:Nat))))) w nilV j,Th.ext (Dk.vw [true,false,false,false] R)=Th.ext (Dk.vw [true,false,false,false] R),Th.ext (Dk.tab (TB.bs (Nat.brecOn.go (nbR R) (blksP._f R)).1))=Th.ext (Dk.tab (TB.bs (Nat.brecOn.go (nbR R) (blksP._f R)).1)),Value.int IntKind.i64 (Int.ofNat 0)=Value.int IntKind.i64 (Int.ofNat 0)],by kernel_rfl,(by refine mcons ?_ (mcons ?_ (mcons ?_ (mcons ?_ (mcons ?_ (mcons ?_ (mcons ?_ (mcons ?_ (mcons ?_ (mcons ?_ (mcons ?_ (mcons ?_ mnil)))))))))))<;>first|rfl|exact h0|exact h1|exact h2|exact h3|trivial|(exact nil_tab0 rfl))⟩
def okP (R:List Rw):Bool:=allI 1 R.length (riseI R)&&allI 0 R.length (isI R)
def dbE (R:List Rw):Int:=bif okP R then (bif decide ((R.length:Int)>24) then 8 else 0) else 2
def dbB (R:List Rw):List (List UInt8):=bif okP R&&!decide ((R.length:Int)>24) then blksP R (nbR R) else []
def C_dblocks:Ctr Td:=fun us sub=>match us,sub with
 |[.one (.obj 0)],[⟨.us (.ext (.vw [true,false,false,false] R)),false⟩]=>some ([R.length≤1000],.tup [.one (.obj 1),.one (.v (.int .i64 (dbE R)))],[⟨.us (.ext (.vw [true,false,false,false] R)),false⟩,⟨.us (.ext (.tab (.bs (dbB R)))),true⟩])
 |_,_=>none
set_option maxRecDepth 100000 in
theorem C_dblocks_ok:CtrOk Try.prog Id' 58 C_dblocks:=by
 intro us sub ps x sm h hp w e vs hM ha
 unfold C_dblocks at h
 split at h
 ·rename_i R
  simp only [Option.some.injEq,Prod.mk.injEq] at h
  obtain ⟨rfl,rfl,rfl⟩:=h
  have hL:R.length≤1000:=hp _ (List.mem_cons_self ..)
  cases h1:(!allI 1 R.length (riseI R)) with
  |true=>
   have h1':allI 1 R.length (riseI R)=false:=by simpa using h1
   have hv:dbE R=2:=by unfold dbE okP;rw [h1'];rfl
   have hb:dbB R=[]:=by unfold dbB okP;rw [h1'];rfl
   rw [hv,hb]
   exact ctr_way (I:=Id') (fun (W0:World) (G:Nat→Prop)=>SyOk.mk2 Try.mixed dkHo_ok (FnsR.cons (R_drise) (FnsR.cons (R_ctf) (FnsR.nil))) EqsOk.nil) rfl Try.func58 (by kernel_rfl) (fun _ _=>LpsOk.cons (by kernel_rfl) (dbo_lp R (by omega) _ rfl) (LpsOk.nil _)) (cs:=[true]) (by kernel_rfl) (dbkA_w0 R h1 (by omega)) w e vs hM ha
  |false=>
   have h1':allI 1 R.length (riseI R)=true:=by simpa using h1
   cases h2:(!allI 0 R.length (isI R)) with
   |true=>
    have h2':allI 0 R.length (isI R)=false:=by simpa using h2
    have hv:dbE R=2:=by unfold dbE okP;rw [h1',h2'];rfl
    have hb:dbB R=[]:=by unfold dbB okP;rw [h1',h2'];rfl
    rw [hv,hb]
    exact ctr_way (I:=Id') (fun (W0:World) (G:Nat→Prop)=>SyOk.mk2 Try.mixed dkHo_ok (FnsR.cons (R_drise) (FnsR.cons (R_ctf) (FnsR.nil))) EqsOk.nil) rfl Try.func58 (by kernel_rfl) (fun _ _=>LpsOk.cons (by kernel_rfl) (dbo_lp R (by omega) _ rfl) (LpsOk.nil _)) (cs:=[false,true]) (by kernel_rfl) (dbkB_w0 R h1 h2 (by omega)) w e vs hM ha
   |false=>
    have h2':allI 0 R.length (isI R)=true:=by simpa using h2
    cases h3:decide ((R.length:Int)>24) with
    |true=>
     have hv:dbE R=8:=by unfold dbE okP;rw [h1',h2',h3];rfl
     have hb:dbB R=[]:=by unfold dbB okP;rw [h1',h2',h3];rfl
     rw [hv,hb]
     exact ctr_way (I:=Id') (fun (W0:World) (G:Nat→Prop)=>SyOk.mk2 Try.mixed dkHo_ok (FnsR.cons (R_drise) (FnsR.cons (R_ctf) (FnsR.nil))) EqsOk.nil) rfl Try.func58 (by kernel_rfl) (fun _ _=>LpsOk.cons (by kernel_rfl) (dbo_lp R (by omega) _ rfl) (LpsOk.nil _)) (cs:=[false,false,true]) (by kernel_rfl) (dbkC_w0 R h1 h2 h3 (by omega)) w e vs hM ha
    |false=>
     have hv:dbE R=0:=by unfold dbE okP;rw [h1',h2',h3];rfl
     have hb:dbB R=blksP R (nbR R):=by unfold dbB okP;rw [h1',h2',h3];rfl
     rw [hv,hb]
     exact ctr_way (I:=Id') (fun (W0:World) (G:Nat→Prop)=>SyOk.mk2 Try.mixed dkHo_ok (FnsR.cons (R_drise) (FnsR.cons (R_ctf) (FnsR.nil))) EqsOk.nil) rfl Try.func58 (by kernel_rfl) (fun _ _=>LpsOk.cons (by kernel_rfl) (dbo_lp R (by omega) _ rfl) (LpsOk.nil _)) (cs:=[false,false,false]) (by kernel_rfl) (dbkD_w0 R h1 h2 h3 (by omega)) w e vs hM ha
 ·cases h
theorem R_dblocks:RowOk Try.prog Id' hardD 58 (ctrF Id' C_dblocks hardD):=ctrF_ok Try.call58 C_dblocks_ok
end Go.Proofs.Ytdenmoiaiemokaa
set_option linter.unusedVariables false
set_option linter.unusedSimpArgs false
namespace Go.Proofs.Ytdenmoiaiemokaa
open Go.RowKit
def nmB (l:List Bool) (nm:ByteArray):Nat→List Bool
 |0=>l
 |k+1=>nmB l nm k++bitsOf (IntKind.u64.wrap (chI nm (k:Int))).toNat 8
theorem nmB_len (l:List Bool) (nm:ByteArray):∀ k,(nmB l nm k).length=l.length+8 * k
 |0=>rfl
 |k+1=>by simp only [nmB,List.length_append,bitsOf_length,nmB_len l nm k];omega
set_option maxRecDepth 100000 in
theorem rbi_n1 (R:List Rw) (nm:ByteArray) (a b c:Int) (l l2:List Bool) (i i2:Int) (k:Nat) (f:Nat→Value) (h0:decide (i<(16:Int))=true) (h1:IntKind.i64.wrap (i+1)=i2) (h2:0≤i∧i.toNat<nm.size) (h3:decide (i<(nm.size:Int))=true) (h4:l.length+(bitsOf (IntKind.u64.wrap (((nm.data.toList.getD i.toNat 0).toNat:Nat):Int)).toNat 8).length≤1000000) (h5:(0:Int)≤IntKind.u64.wrap (((nm.data.toList.getD i.toNat 0).toNat:Nat):Int)∧IntKind.u64.wrap (((nm.data.toList.getD i.toNat 0).toNat:Nat):Int)<(18446744073709551616:Int)) (h6:(l++bitsOf (IntKind.u64.wrap (((nm.data.toList.getD i.toNat 0).toNat:Nat):Int)).toNat 8)=l2):∃ qs,alN Id' 11 [(6,.c (.one (.v (.int .i64 i2)))),(3,.c (.one (.obj 11)))] [⟨.us (.ext (.vw [true,false,false,false] R)),false⟩,⟨.dead,true⟩,⟨.blk [.v (.string nm),.v (.int .i64 a),.v (.int .i64 b),.v (.int .i64 c)],true⟩,⟨.dead,true⟩,⟨.dead,true⟩,⟨.dead,true⟩,⟨.dead,true⟩,⟨.dead,true⟩,⟨.dead,true⟩,⟨.dead,true⟩,⟨.dead,true⟩,⟨.us (.bts l2),true⟩] ((symC (⟨Try.prog,[F_rbits (ξ:=Dk) (hx:=hardDk)],[],dkHo,Id'.one,60⟩:Sy Td) [] 73 (hdC (loopsC (bodyOf Try.f123)) 1) ⟨[(6,.c (.one (.v (.int .i64 i)))),(3,.c (.one (.obj 11)))]++anyB' (writesC (hdC (loopsC (bodyOf Try.f123)) 1)) ([(5,.c (.one (.ptr 2 0)))]++tabV f 73),[⟨.us (.ext (.vw [true,false,false,false] R)),false⟩,⟨.dead,true⟩,⟨.blk [.v (.string nm),.v (.int .i64 a),.v (.int .i64 b),.v (.int .i64 c)],true⟩,⟨.dead,true⟩,⟨.dead,true⟩,⟨.dead,true⟩,⟨.dead,true⟩,⟨.dead,true⟩,⟨.dead,true⟩,⟨.dead,true⟩,⟨.dead,true⟩,⟨.us (.bts l),true⟩],0⟩).al [true,true])=some qs∧∀ q∈qs,q:=
 ⟨[decide (i<(16:Int))=true,decide (i<(↑nm.size:Int))=true,(0:Int)≤i∧i.toNat<nm.size,l.length+(bitsOf (IntKind.u64.wrap (↑(nm.data.toList.getD i.toNat (0:UInt8)).toNat:Int)).toNat 8).length≤(1000000:Nat),(0:Int)≤IntKind.u64.wrap (↑(nm.data.toList.getD i.toNat (0:UInt8)).toNat:Int)∧IntKind.u64.wrap (↑(nm.data.toList.getD i.toNat (0:UInt8)).toNat:Int)<(18446744073709551616:Int),Th.ext (Dk.vw [true,false,false,false] R)=Th.ext (Dk.vw [true,false,false,false] R),Value.string nm=Value.string nm,Value.int IntKind.i64 a=Value.int IntKind.i64 a,Value.int IntKind.i64 b=Value.int IntKind.i64 b,Value.int IntKind.i64 c=Value.int IntKind.i64 c,(Th.bts (l++bitsOf (IntKind.u64.wrap (((nm.data.toList.getD i.toNat 0).toNat:Nat):Int)).toNat 8):Td)=Th.bts l2,Value.int IntKind.i64 (IntKind.i64.wrap (i+(1:Int)))=Value.int IntKind.i64 i2],by kernel_rfl,(by refine mcons ?_ (mcons ?_ (mcons ?_ (mcons ?_ (mcons ?_ (mcons ?_ (mcons ?_ (mcons ?_ (mcons ?_ (mcons ?_ (mcons ?_ (mcons ?_ mnil)))))))))))<;>first|(exact congrArg Th.bts h6)|(exact congrArg _ h1)|exact h0|exact h1|exact h2|exact h3|exact h4|exact h5|exact h6|rfl|trivial)⟩
set_option maxRecDepth 100000 in
theorem rbi_n2 (R:List Rw) (nm:ByteArray) (a b c:Int) (l l2:List Bool) (i i2:Int) (k:Nat) (f:Nat→Value) (h0:decide (i<(16:Int))=true) (h1:IntKind.i64.wrap (i+1)=i2) (h2:decide (i<(nm.size:Int))=false) (h3:l.length+(bitsOf (Int.ofNat (0:Nat)).toNat 8).length≤1000000) (h4:(0:Int)≤Int.ofNat (0:Nat)∧Int.ofNat (0:Nat)<(18446744073709551616:Int)) (h5:(l++bitsOf (Int.ofNat (0:Nat)).toNat 8)=l2):∃ qs,alN Id' 11 [(6,.c (.one (.v (.int .i64 i2)))),(3,.c (.one (.obj 11)))] [⟨.us (.ext (.vw [true,false,false,false] R)),false⟩,⟨.dead,true⟩,⟨.blk [.v (.string nm),.v (.int .i64 a),.v (.int .i64 b),.v (.int .i64 c)],true⟩,⟨.dead,true⟩,⟨.dead,true⟩,⟨.dead,true⟩,⟨.dead,true⟩,⟨.dead,true⟩,⟨.dead,true⟩,⟨.dead,true⟩,⟨.dead,true⟩,⟨.us (.bts l2),true⟩] ((symC (⟨Try.prog,[F_rbits (ξ:=Dk) (hx:=hardDk)],[],dkHo,Id'.one,60⟩:Sy Td) [] 73 (hdC (loopsC (bodyOf Try.f123)) 1) ⟨[(6,.c (.one (.v (.int .i64 i)))),(3,.c (.one (.obj 11)))]++anyB' (writesC (hdC (loopsC (bodyOf Try.f123)) 1)) ([(5,.c (.one (.ptr 2 0)))]++tabV f 73),[⟨.us (.ext (.vw [true,false,false,false] R)),false⟩,⟨.dead,true⟩,⟨.blk [.v (.string nm),.v (.int .i64 a),.v (.int .i64 b),.v (.int .i64 c)],true⟩,⟨.dead,true⟩,⟨.dead,true⟩,⟨.dead,true⟩,⟨.dead,true⟩,⟨.dead,true⟩,⟨.dead,true⟩,⟨.dead,true⟩,⟨.dead,true⟩,⟨.us (.bts l),true⟩],0⟩).al [true,false])=some qs∧∀ q∈qs,q:=
 ⟨[decide (i<(16:Int))=true,decide (i<(↑nm.size:Int))=false,l.length+(bitsOf (Int.ofNat (0:Nat)).toNat 8).length≤(1000000:Nat),(0:Int)≤Int.ofNat (0:Nat)∧Int.ofNat (0:Nat)<(18446744073709551616:Int),Th.ext (Dk.vw [true,false,false,false] R)=Th.ext (Dk.vw [true,false,false,false] R),Value.string nm=Value.string nm,Value.int IntKind.i64 a=Value.int IntKind.i64 a,Value.int IntKind.i64 b=Value.int IntKind.i64 b,Value.int IntKind.i64 c=Value.int IntKind.i64 c,(Th.bts (l++bitsOf (Int.ofNat (0:Nat)).toNat 8):Td)=Th.bts l2,Value.int IntKind.i64 (IntKind.i64.wrap (i+(1:Int)))=Value.int IntKind.i64 i2],by kernel_rfl,(by refine mcons ?_ (mcons ?_ (mcons ?_ (mcons ?_ (mcons ?_ (mcons ?_ (mcons ?_ (mcons ?_ (mcons ?_ (mcons ?_ (mcons ?_ mnil))))))))))<;>first|(exact congrArg Th.bts h5)|(exact congrArg _ h1)|exact h0|exact h1|exact h2|exact h3|exact h4|exact h5|rfl|trivial)⟩
set_option maxRecDepth 100000 in
theorem rbi_x (R:List Rw) (nm:ByteArray) (a b c:Int) (l l2:List Bool) (i i2:Int) (k:Nat) (f:Nat→Value) (h0:decide (i<(16:Int))=false) (h1:l=l2):∃ qs,alX Id' 11 2 [(3,.c (.one (.obj 11)))] [⟨.us (.ext (.vw [true,false,false,false] R)),false⟩,⟨.dead,true⟩,⟨.blk [.v (.string nm),.v (.int .i64 a),.v (.int .i64 b),.v (.int .i64 c)],true⟩,⟨.dead,true⟩,⟨.dead,true⟩,⟨.dead,true⟩,⟨.dead,true⟩,⟨.dead,true⟩,⟨.dead,true⟩,⟨.dead,true⟩,⟨.dead,true⟩,⟨.us (.bts l2),true⟩] ((symC (⟨Try.prog,[F_rbits (ξ:=Dk) (hx:=hardDk)],[],dkHo,Id'.one,60⟩:Sy Td) [] 73 (hdC (loopsC (bodyOf Try.f123)) 1) ⟨[(6,.c (.one (.v (.int .i64 i)))),(3,.c (.one (.obj 11)))]++anyB' (writesC (hdC (loopsC (bodyOf Try.f123)) 1)) ([(5,.c (.one (.ptr 2 0)))]++tabV f 73),[⟨.us (.ext (.vw [true,false,false,false] R)),false⟩,⟨.dead,true⟩,⟨.blk [.v (.string nm),.v (.int .i64 a),.v (.int .i64 b),.v (.int .i64 c)],true⟩,⟨.dead,true⟩,⟨.dead,true⟩,⟨.dead,true⟩,⟨.dead,true⟩,⟨.dead,true⟩,⟨.dead,true⟩,⟨.dead,true⟩,⟨.dead,true⟩,⟨.us (.bts l),true⟩],0⟩).al [false])=some qs∧∀ q∈qs,q:=
 ⟨[decide (i<(16:Int))=false,Th.ext (Dk.vw [true,false,false,false] R)=Th.ext (Dk.vw [true,false,false,false] R),Value.string nm=Value.string nm,Value.int IntKind.i64 a=Value.int IntKind.i64 a,Value.int IntKind.i64 b=Value.int IntKind.i64 b,Value.int IntKind.i64 c=Value.int IntKind.i64 c,(Th.bts l:Td)=Th.bts l2],by kernel_rfl,(by refine mcons ?_ (mcons ?_ (mcons ?_ (mcons ?_ (mcons ?_ (mcons ?_ (mcons ?_ mnil))))))<;>first|(exact congrArg Th.bts h1)|exact h0|exact h1|rfl|trivial)⟩
set_option maxRecDepth 100000 in
theorem rbi_lp (R:List Rw) (nm:ByteArray) (a b c:Int) (l:List Bool) (hl:l.length≤900000) {W0:World} {G:Nat→Prop} (S0:Sy Td) (hS0:S0.P=Try.prog):LoopSound S0 Id' W0 G 73 (hdC (loopsC (bodyOf Try.f123)) 1) (lpG Id' 73 (hdC (loopsC (bodyOf Try.f123)) 1) 11 [(6,.c (.one (.v (.int .i64 ((0:Nat):Int))))),(3,.c (.one (.obj 11)))] [(5,.c (.one (.ptr 2 0)))] [⟨.us (.ext (.vw [true,false,false,false] R)),false⟩,⟨.dead,true⟩,⟨.blk [.v (.string nm),.v (.int .i64 a),.v (.int .i64 b),.v (.int .i64 c)],true⟩,⟨.dead,true⟩,⟨.dead,true⟩,⟨.dead,true⟩,⟨.dead,true⟩,⟨.dead,true⟩,⟨.dead,true⟩,⟨.dead,true⟩,⟨.dead,true⟩,⟨.us (.bts (nmB l nm 0)),true⟩] (.leaf (.exit 2) [(3,.c (.one (.obj 11)))] [⟨.us (.ext (.vw [true,false,false,false] R)),false⟩,⟨.dead,true⟩,⟨.blk [.v (.string nm),.v (.int .i64 a),.v (.int .i64 b),.v (.int .i64 c)],true⟩,⟨.dead,true⟩,⟨.dead,true⟩,⟨.dead,true⟩,⟨.dead,true⟩,⟨.dead,true⟩,⟨.dead,true⟩,⟨.dead,true⟩,⟨.dead,true⟩,⟨.us (.bts (nmB l nm 16)),true⟩])):=by
 refine lp_sound (V:=fun k=>[(6,.c (.one (.v (.int .i64 (k:Int))))),(3,.c (.one (.obj 11)))]) (M:=(fun k=>[⟨.us (.ext (.vw [true,false,false,false] R)),false⟩,⟨.dead,true⟩,⟨.blk [.v (.string nm),.v (.int .i64 a),.v (.int .i64 b),.v (.int .i64 c)],true⟩,⟨.dead,true⟩,⟨.dead,true⟩,⟨.dead,true⟩,⟨.dead,true⟩,⟨.dead,true⟩,⟨.dead,true⟩,⟨.dead,true⟩,⟨.dead,true⟩,⟨.us (.bts (nmB l nm k)),true⟩]:Nat→Mem Td)) (N:=16) (Ux:=fun k x=>match x with|.exit 2=>some ([(3,.c (.one (.obj 11)))],([⟨.us (.ext (.vw [true,false,false,false] R)),false⟩,⟨.dead,true⟩,⟨.blk [.v (.string nm),.v (.int .i64 a),.v (.int .i64 b),.v (.int .i64 c)],true⟩,⟨.dead,true⟩,⟨.dead,true⟩,⟨.dead,true⟩,⟨.dead,true⟩,⟨.dead,true⟩,⟨.dead,true⟩,⟨.dead,true⟩,⟨.dead,true⟩,⟨.us (.bts (nmB l nm 16)),true⟩]:Mem Td))|_=>none) (X:=fun _ _=>True) (J:=fun k=>True) (fun k=>by kernel_rfl) trivial (fun k hk hJ f=>?_) (fun K hK k x U hk hU hX=>?_)
 ·rw [hS0]
  have hn:=nmB_len l nm k
  cases hT:decide ((k:Int)<(16:Int)) with
  |false=>
   have hke:k=16:=by have:=of_decide_eq_false hT;omega
   exact rnd_xD (⟨Try.prog,[F_rbits (ξ:=Dk) (hx:=hardDk)],[],dkHo,Id'.one,60⟩:Sy Td) rfl ((fun (W0:World) (G:Nat→Prop)=>SyOk.mk2 Try.mixed dkHo_ok (FnsR.cons (F_rbits_ok (J:=dkI) (hx:=hardDk)) (FnsR.nil)) EqsOk.nil) W0 G) (rbi_x R nm a b c (nmB l nm k) (nmB l nm 16) (k:Int) ((k+1:Nat):Int) k f hT (by rw [hke])) rfl  trivial
  |true=>
   have hk1:=of_decide_eq_true hT
   have hW:IntKind.i64.wrap ((k:Int)+1)=((k+1:Nat):Int):=by rw [IntWalk.i64_in _ (by omega)];omega
   cases hq:decide ((k:Int)<(nm.size:Int)) with
   |true=>
    have he:nmB l nm k++bitsOf (IntKind.u64.wrap (((nm.data.toList.getD (k:Int).toNat 0).toNat:Nat):Int)).toNat 8=nmB l nm (k+1):=by
     show _=nmB l nm k++bitsOf (IntKind.u64.wrap (chI nm (k:Int))).toNat 8
     unfold chI;rw [hq];rfl
    exact rnd_nD (⟨Try.prog,[F_rbits (ξ:=Dk) (hx:=hardDk)],[],dkHo,Id'.one,60⟩:Sy Td) rfl ((fun (W0:World) (G:Nat→Prop)=>SyOk.mk2 Try.mixed dkHo_ok (FnsR.cons (F_rbits_ok (J:=dkI) (hx:=hardDk)) (FnsR.nil)) EqsOk.nil) W0 G) (rbi_n1 R nm a b c (nmB l nm k) (nmB l nm (k+1)) (k:Int) ((k+1:Nat):Int) k f hT hW ⟨by omega,by have:=of_decide_eq_true hq;omega⟩ hq (by rw [bitsOf_length];omega) (u64r _) he) rfl  rfl (by omega) trivial
   |false=>
    have he:nmB l nm k++bitsOf (Int.ofNat (0:Nat)).toNat 8=nmB l nm (k+1):=by
     show _=nmB l nm k++bitsOf (IntKind.u64.wrap (chI nm (k:Int))).toNat 8
     unfold chI;rw [hq];rfl
    exact rnd_nD (⟨Try.prog,[F_rbits (ξ:=Dk) (hx:=hardDk)],[],dkHo,Id'.one,60⟩:Sy Td) rfl ((fun (W0:World) (G:Nat→Prop)=>SyOk.mk2 Try.mixed dkHo_ok (FnsR.cons (F_rbits_ok (J:=dkI) (hx:=hardDk)) (FnsR.nil)) EqsOk.nil) W0 G) (rbi_n2 R nm a b c (nmB l nm k) (nmB l nm (k+1)) (k:Int) ((k+1:Nat):Int) k f hT hW hq (by rw [bitsOf_length];omega) ⟨by decide,by decide⟩ he) rfl  rfl (by omega) trivial
 ·revert hU
  match x with
  |.normal=>intro hU;cases hU
  |.ret=>intro hU;cases hU
  |.exit n=>
   intro hU
   by_cases h:n=2
   ·subst h;simp only [Option.some.injEq] at hU;subst hU;exact hK
   ·exfalso;split at hU
    ·rename_i he;cases he;exact h rfl
    ·cases hU
end Go.Proofs.Ytdenmoiaiemokaa
set_option linter.unusedVariables false
set_option linter.unusedSimpArgs false
namespace Go.Proofs.Ytdenmoiaiemokaa
open Go.RowKit
set_option maxRecDepth 100000 in
theorem rbo_n (R:List Rw) (nm:ByteArray) (a b c:Int) (l l1 l2:List Bool) (i i2:Int) (k:Nat) (f:Nat→Value) (h0:decide (i<(R.length:Int))=true) (h1:IntKind.i64.wrap (i+1)=i2) (h2:0≤i∧i.toNat<R.length) (h3:((R.getD i.toNat Rw.zero).ss.getD 0 ⟨#[]⟩)=nm) (h4:((R.getD i.toNat Rw.zero).is.getD 0 0)=a) (h5:((R.getD i.toNat Rw.zero).is.getD 1 0)=b) (h6:((R.getD i.toNat Rw.zero).is.getD 2 0)=c) (h7:((((l++bitsOf (IntKind.u64.wrap (((R.getD i.toNat Rw.zero).ss.getD 0 ⟨#[]⟩).size:Int)).toNat 5)++bitsOf (IntKind.u64.wrap ((R.getD i.toNat Rw.zero).is.getD 0 0)).toNat 6)++bitsOf (IntKind.u64.wrap ((R.getD i.toNat Rw.zero).is.getD 1 0)).toNat 31)++bitsOf (IntKind.u64.wrap ((R.getD i.toNat Rw.zero).is.getD 2 0)).toNat 2)=l1) (h8:nmB l1 nm 16=l2) (h9:l.length+(bitsOf (IntKind.u64.wrap (((R.getD i.toNat Rw.zero).ss.getD 0 ⟨#[]⟩).size:Int)).toNat 5).length≤1000000) (h10:(l++bitsOf (IntKind.u64.wrap (((R.getD i.toNat Rw.zero).ss.getD 0 ⟨#[]⟩).size:Int)).toNat 5).length+(bitsOf (IntKind.u64.wrap ((R.getD i.toNat Rw.zero).is.getD 0 0)).toNat 6).length≤1000000) (h11:((l++bitsOf (IntKind.u64.wrap (((R.getD i.toNat Rw.zero).ss.getD 0 ⟨#[]⟩).size:Int)).toNat 5)++bitsOf (IntKind.u64.wrap ((R.getD i.toNat Rw.zero).is.getD 0 0)).toNat 6).length+(bitsOf (IntKind.u64.wrap ((R.getD i.toNat Rw.zero).is.getD 1 0)).toNat 31).length≤1000000) (h12:(((l++bitsOf (IntKind.u64.wrap (((R.getD i.toNat Rw.zero).ss.getD 0 ⟨#[]⟩).size:Int)).toNat 5)++bitsOf (IntKind.u64.wrap ((R.getD i.toNat Rw.zero).is.getD 0 0)).toNat 6)++bitsOf (IntKind.u64.wrap ((R.getD i.toNat Rw.zero).is.getD 1 0)).toNat 31).length+(bitsOf (IntKind.u64.wrap ((R.getD i.toNat Rw.zero).is.getD 2 0)).toNat 2).length≤1000000):∃ qs,alN Id' 1 [(4,.c (.one (.v (.int .i64 i2)))),(3,.c (.one (.obj 1)))] [⟨.us (.ext (.vw [true,false,false,false] R)),false⟩,⟨.us (.bts l2),true⟩] ((symC (⟨Try.prog,[F_rbits (ξ:=Dk) (hx:=hardDk)],[],dkHo,Id'.one,60⟩:Sy Td) [(11,(lpG Id' 73 (hdC (loopsC (bodyOf Try.f123)) 1) 11 [(6,.c (.one (.v (.int .i64 ((0:Nat):Int))))),(3,.c (.one (.obj 11)))] [(5,.c (.one (.ptr 2 0)))] [⟨.us (.ext (.vw [true,false,false,false] R)),false⟩,⟨.dead,true⟩,⟨.blk [.v (.string nm),.v (.int .i64 a),.v (.int .i64 b),.v (.int .i64 c)],true⟩,⟨.dead,true⟩,⟨.dead,true⟩,⟨.dead,true⟩,⟨.dead,true⟩,⟨.dead,true⟩,⟨.dead,true⟩,⟨.dead,true⟩,⟨.dead,true⟩,⟨.us (.bts (nmB l1 nm 0)),true⟩] (.leaf (.exit 2) [(3,.c (.one (.obj 11)))] [⟨.us (.ext (.vw [true,false,false,false] R)),false⟩,⟨.dead,true⟩,⟨.blk [.v (.string nm),.v (.int .i64 a),.v (.int .i64 b),.v (.int .i64 c)],true⟩,⟨.dead,true⟩,⟨.dead,true⟩,⟨.dead,true⟩,⟨.dead,true⟩,⟨.dead,true⟩,⟨.dead,true⟩,⟨.dead,true⟩,⟨.dead,true⟩,⟨.us (.bts (nmB l1 nm 16)),true⟩])))] 73 (hdC (loopsC (bodyOf Try.f123)) 0) ⟨[(4,.c (.one (.v (.int .i64 i)))),(3,.c (.one (.obj 1)))]++anyB' (writesC (hdC (loopsC (bodyOf Try.f123)) 0)) ([(0,.c (.one (.obj 0)))]++tabV f 73),[⟨.us (.ext (.vw [true,false,false,false] R)),false⟩,⟨.us (.bts l),true⟩],0⟩).al [true])=some qs∧∀ q∈qs,q:=
 ⟨[decide (i<(↑R.length:Int))=true,(0:Int)≤i∧i.toNat<R.length,l.length+(bitsOf (IntKind.u64.wrap (↑((R.getD i.toNat Rw.zero).ss.getD (0:Nat) (ByteArray.mk #[])).size:Int)).toNat 5).length≤(1000000:Nat),(0:Int)≤IntKind.u64.wrap (↑((R.getD i.toNat Rw.zero).ss.getD (0:Nat) (ByteArray.mk #[])).size:Int)∧IntKind.u64.wrap (↑((R.getD i.toNat Rw.zero).ss.getD (0:Nat) (ByteArray.mk #[])).size:Int)<(18446744073709551616:Int),(l++bitsOf (IntKind.u64.wrap (↑((R.getD i.toNat Rw.zero).ss.getD (0:Nat) (ByteArray.mk #[])).size:Int)).toNat 5).length+(bitsOf (IntKind.u64.wrap ((R.getD i.toNat Rw.zero).is.getD (0:Nat) (0:Int))).toNat 6).length≤(1000000:Nat),(0:Int)≤IntKind.u64.wrap ((R.getD i.toNat Rw.zero).is.getD (0:Nat) (0:Int))∧IntKind.u64.wrap ((R.getD i.toNat Rw.zero).is.getD (0:Nat) (0:Int))<(18446744073709551616:Int),(l++bitsOf (IntKind.u64.wrap (↑((R.getD i.toNat Rw.zero).ss.getD (0:Nat) (ByteArray.mk #[])).size:Int)).toNat 5++bitsOf (IntKind.u64.wrap ((R.getD i.toNat Rw.zero).is.getD (0:Nat) (0:Int))).toNat 6).length+(bitsOf (IntKind.u64.wrap ((R.getD i.toNat Rw.zero).is.getD ((0:Nat)+(1:Nat)) (0:Int))).toNat 31).length≤(1000000:Nat),(0:Int)≤IntKind.u64.wrap ((R.getD i.toNat Rw.zero).is.getD ((0:Nat)+(1:Nat)) (0:Int))∧IntKind.u64.wrap ((R.getD i.toNat Rw.zero).is.getD ((0:Nat)+(1:Nat)) (0:Int))<(18446744073709551616:Int),(l++bitsOf (IntKind.u64.wrap (↑((R.getD i.toNat Rw.zero).ss.getD (0:Nat) (ByteArray.mk #[])).size:Int)).toNat 5++bitsOf (IntKind.u64.wrap ((R.getD i.toNat Rw.zero).is.getD (0:Nat) (0:Int))).toNat 6++bitsOf (IntKind.u64.wrap ((R.getD i.toNat Rw.zero).is.getD ((0:Nat)+(1:Nat)) (0:Int))).toNat 31).length+(bitsOf (IntKind.u64.wrap ((R.getD i.toNat Rw.zero).is.getD ((0:Nat)+(1:Nat)+(1:Nat)) (0:Int))).toNat 2).length≤(1000000:Nat),(0:Int)≤IntKind.u64.wrap ((R.getD i.toNat Rw.zero).is.getD ((0:Nat)+(1:Nat)+(1:Nat)) (0:Int))∧IntKind.u64.wrap ((R.getD i.toNat Rw.zero).is.getD ((0:Nat)+(1:Nat)+(1:Nat)) (0:Int))<(18446744073709551616:Int),Th.ext (Dk.vw [true,false,false,false] R)=Th.ext (Dk.vw [true,false,false,false] R),Value.string ((R.getD i.toNat Rw.zero).ss.getD (0:Nat) (ByteArray.mk #[]))=Value.string nm,Value.int IntKind.i64 ((R.getD i.toNat Rw.zero).is.getD (0:Nat) (0:Int))=Value.int IntKind.i64 a,Value.int IntKind.i64 ((R.getD i.toNat Rw.zero).is.getD ((0:Nat)+(1:Nat)) (0:Int))=Value.int IntKind.i64 b,Value.int IntKind.i64 ((R.getD i.toNat Rw.zero).is.getD ((0:Nat)+(1:Nat)+(1:Nat)) (0:Int))=Value.int IntKind.i64 c,(Th.bts ((((l++bitsOf (IntKind.u64.wrap (((R.getD i.toNat Rw.zero).ss.getD 0 ⟨#[]⟩).size:Int)).toNat 5)++bitsOf (IntKind.u64.wrap ((R.getD i.toNat Rw.zero).is.getD 0 0)).toNat 6)++bitsOf (IntKind.u64.wrap ((R.getD i.toNat Rw.zero).is.getD 1 0)).toNat 31)++bitsOf (IntKind.u64.wrap ((R.getD i.toNat Rw.zero).is.getD 2 0)).toNat 2):Td)=Th.bts l1,Value.int IntKind.i64 (Int.ofNat 0)=Value.int IntKind.i64 (Int.ofNat (0:Nat)),Th.ext (Dk.vw [true,false,false,false] R)=Th.ext (Dk.vw [true,false,false,false] R),(Th.bts (nmB l1 nm 16):Td)=Th.bts l2,Value.int IntKind.i64 (IntKind.i64.wrap (i+(1:Int)))=Value.int IntKind.i64 i2],by kernel_rfl,(mcons h0 (mcons h2 (mcons h9 (mcons (u64r _) (mcons h10 (mcons (u64r _) (mcons h11 (mcons (u64r _) (mcons h12 (mcons (u64r _) (mcons rfl (mcons (congrArg Value.string h3) (mcons (congrArg (Value.int .i64) h4) (mcons (congrArg (Value.int .i64) h5) (mcons (congrArg (Value.int .i64) h6) (mcons (congrArg Th.bts h7) (mcons rfl (mcons rfl (mcons (congrArg Th.bts h8) (mcons (congrArg (Value.int .i64) h1) mnil))))))))))))))))))))⟩
set_option maxRecDepth 100000 in
theorem rbo_x (R:List Rw) (nm:ByteArray) (a b c:Int) (l l1 l2:List Bool) (i i2:Int) (k:Nat) (f:Nat→Value) (h0:decide (i<(R.length:Int))=false) (h1:l=l2):∃ qs,alX Id' 1 0 [(3,.c (.one (.obj 1)))] [⟨.us (.ext (.vw [true,false,false,false] R)),false⟩,⟨.us (.bts l2),true⟩] ((symC (⟨Try.prog,[F_rbits (ξ:=Dk) (hx:=hardDk)],[],dkHo,Id'.one,60⟩:Sy Td) [(11,(lpG Id' 73 (hdC (loopsC (bodyOf Try.f123)) 1) 11 [(6,.c (.one (.v (.int .i64 ((0:Nat):Int))))),(3,.c (.one (.obj 11)))] [(5,.c (.one (.ptr 2 0)))] [⟨.us (.ext (.vw [true,false,false,false] R)),false⟩,⟨.dead,true⟩,⟨.blk [.v (.string nm),.v (.int .i64 a),.v (.int .i64 b),.v (.int .i64 c)],true⟩,⟨.dead,true⟩,⟨.dead,true⟩,⟨.dead,true⟩,⟨.dead,true⟩,⟨.dead,true⟩,⟨.dead,true⟩,⟨.dead,true⟩,⟨.dead,true⟩,⟨.us (.bts (nmB l1 nm 0)),true⟩] (.leaf (.exit 2) [(3,.c (.one (.obj 11)))] [⟨.us (.ext (.vw [true,false,false,false] R)),false⟩,⟨.dead,true⟩,⟨.blk [.v (.string nm),.v (.int .i64 a),.v (.int .i64 b),.v (.int .i64 c)],true⟩,⟨.dead,true⟩,⟨.dead,true⟩,⟨.dead,true⟩,⟨.dead,true⟩,⟨.dead,true⟩,⟨.dead,true⟩,⟨.dead,true⟩,⟨.dead,true⟩,⟨.us (.bts (nmB l1 nm 16)),true⟩])))] 73 (hdC (loopsC (bodyOf Try.f123)) 0) ⟨[(4,.c (.one (.v (.int .i64 i)))),(3,.c (.one (.obj 1)))]++anyB' (writesC (hdC (loopsC (bodyOf Try.f123)) 0)) ([(0,.c (.one (.obj 0)))]++tabV f 73),[⟨.us (.ext (.vw [true,false,false,false] R)),false⟩,⟨.us (.bts l),true⟩],0⟩).al [false])=some qs∧∀ q∈qs,q:=
 ⟨[decide (i<(↑R.length:Int))=false,Th.ext (Dk.vw [true,false,false,false] R)=Th.ext (Dk.vw [true,false,false,false] R),(Th.bts l:Td)=Th.bts l2],by kernel_rfl,(by refine mcons ?_ (mcons ?_ (mcons ?_ mnil))<;>first|(exact congrArg Th.bts h1)|exact h0|exact h1|rfl|trivial)⟩
def entB (l:List Bool) (r:Rw):List Bool:=nmB (l++bitsOf (IntKind.u64.wrap ((r.ss.getD 0 ⟨#[]⟩).size:Int)).toNat 5++bitsOf (IntKind.u64.wrap (r.is.getD 0 0)).toNat 6++bitsOf (IntKind.u64.wrap (r.is.getD 1 0)).toNat 31++bitsOf (IntKind.u64.wrap (r.is.getD 2 0)).toNat 2) (r.ss.getD 0 ⟨#[]⟩) 16
def entsB (R:List Rw):Nat→List Bool
 |0=>[]
 |k+1=>entB (entsB R k) (R.getD k Rw.zero)
theorem entB_len (l:List Bool) (r:Rw):(entB l r).length=l.length+172:=by
 unfold entB
 rw [nmB_len]
 simp only [List.length_append,bitsOf_length]
theorem entsB_len (R:List Rw):∀ k,(entsB R k).length=172 * k
 |0=>rfl
 |k+1=>by show (entB (entsB R k) _).length=_;rw [entB_len,entsB_len R k];omega
set_option maxRecDepth 100000 in
theorem rbo_lp (R:List Rw) (hR:R.length≤1000) {W0:World} {G:Nat→Prop} (S0:Sy Td) (hS0:S0.P=Try.prog):LoopSound S0 Id' W0 G 73 (hdC (loopsC (bodyOf Try.f123)) 0) (lpG Id' 73 (hdC (loopsC (bodyOf Try.f123)) 0) 1 [(4,.c (.one (.v (.int .i64 ((0:Nat):Int))))),(3,.c (.one (.obj 1)))] [(0,.c (.one (.obj 0)))] [⟨.us (.ext (.vw [true,false,false,false] R)),false⟩,⟨.us (.bts (entsB R 0)),true⟩] (.leaf (.exit 0) [(3,.c (.one (.obj 1)))] [⟨.us (.ext (.vw [true,false,false,false] R)),false⟩,⟨.us (.bts (entsB R R.length)),true⟩])):=by
 refine lp_sound (V:=fun k=>[(4,.c (.one (.v (.int .i64 (k:Int))))),(3,.c (.one (.obj 1)))]) (M:=(fun k=>[⟨.us (.ext (.vw [true,false,false,false] R)),false⟩,⟨.us (.bts (entsB R k)),true⟩]:Nat→Mem Td)) (N:=R.length) (Ux:=fun k x=>match x with|.exit 0=>some ([(3,.c (.one (.obj 1)))],([⟨.us (.ext (.vw [true,false,false,false] R)),false⟩,⟨.us (.bts (entsB R R.length)),true⟩]:Mem Td))|_=>none) (X:=fun _ _=>True) (J:=fun k=>k≤R.length) (fun k=>by kernel_rfl) (Nat.zero_le _) (fun k hk hJ f=>?_) (fun K hK k x U hk hU hX=>?_)
 ·rw [hS0]
  have hn:=entsB_len R k
  cases hT:decide ((k:Int)<(R.length:Int)) with
  |false=>
   have hke:k=R.length:=by have:=of_decide_eq_false hT;omega
   obtain ⟨ps,h1,h2⟩:=rbo_x R ((R.getD (k:Int).toNat Rw.zero).ss.getD 0 ⟨#[]⟩) ((R.getD (k:Int).toNat Rw.zero).is.getD 0 0) ((R.getD (k:Int).toNat Rw.zero).is.getD 1 0) ((R.getD (k:Int).toNat Rw.zero).is.getD 2 0) (entsB R k) ((((entsB R k++bitsOf (IntKind.u64.wrap (((R.getD (k:Int).toNat Rw.zero).ss.getD 0 ⟨#[]⟩).size:Int)).toNat 5)++bitsOf (IntKind.u64.wrap ((R.getD (k:Int).toNat Rw.zero).is.getD 0 0)).toNat 6)++bitsOf (IntKind.u64.wrap ((R.getD (k:Int).toNat Rw.zero).is.getD 1 0)).toNat 31)++bitsOf (IntKind.u64.wrap ((R.getD (k:Int).toNat Rw.zero).is.getD 2 0)).toNat 2) (entsB R R.length) (k:Int) ((k+1:Nat):Int) k f hT (by rw [hke])
   exact rnd_x (⟨Try.prog,[F_rbits (ξ:=Dk) (hx:=hardDk)],[],dkHo,Id'.one,60⟩:Sy Td) [(11,(lpG Id' 73 (hdC (loopsC (bodyOf Try.f123)) 1) 11 [(6,.c (.one (.v (.int .i64 ((0:Nat):Int))))),(3,.c (.one (.obj 11)))] [(5,.c (.one (.ptr 2 0)))] [⟨.us (.ext (.vw [true,false,false,false] R)),false⟩,⟨.dead,true⟩,⟨.blk [.v (.string ((R.getD (k:Int).toNat Rw.zero).ss.getD 0 ⟨#[]⟩)),.v (.int .i64 ((R.getD (k:Int).toNat Rw.zero).is.getD 0 0)),.v (.int .i64 ((R.getD (k:Int).toNat Rw.zero).is.getD 1 0)),.v (.int .i64 ((R.getD (k:Int).toNat Rw.zero).is.getD 2 0))],true⟩,⟨.dead,true⟩,⟨.dead,true⟩,⟨.dead,true⟩,⟨.dead,true⟩,⟨.dead,true⟩,⟨.dead,true⟩,⟨.dead,true⟩,⟨.dead,true⟩,⟨.us (.bts (nmB ((((entsB R k++bitsOf (IntKind.u64.wrap (((R.getD (k:Int).toNat Rw.zero).ss.getD 0 ⟨#[]⟩).size:Int)).toNat 5)++bitsOf (IntKind.u64.wrap ((R.getD (k:Int).toNat Rw.zero).is.getD 0 0)).toNat 6)++bitsOf (IntKind.u64.wrap ((R.getD (k:Int).toNat Rw.zero).is.getD 1 0)).toNat 31)++bitsOf (IntKind.u64.wrap ((R.getD (k:Int).toNat Rw.zero).is.getD 2 0)).toNat 2) ((R.getD (k:Int).toNat Rw.zero).ss.getD 0 ⟨#[]⟩) 0)),true⟩] (.leaf (.exit 2) [(3,.c (.one (.obj 11)))] [⟨.us (.ext (.vw [true,false,false,false] R)),false⟩,⟨.dead,true⟩,⟨.blk [.v (.string ((R.getD (k:Int).toNat Rw.zero).ss.getD 0 ⟨#[]⟩)),.v (.int .i64 ((R.getD (k:Int).toNat Rw.zero).is.getD 0 0)),.v (.int .i64 ((R.getD (k:Int).toNat Rw.zero).is.getD 1 0)),.v (.int .i64 ((R.getD (k:Int).toNat Rw.zero).is.getD 2 0))],true⟩,⟨.dead,true⟩,⟨.dead,true⟩,⟨.dead,true⟩,⟨.dead,true⟩,⟨.dead,true⟩,⟨.dead,true⟩,⟨.dead,true⟩,⟨.dead,true⟩,⟨.us (.bts (nmB ((((entsB R k++bitsOf (IntKind.u64.wrap (((R.getD (k:Int).toNat Rw.zero).ss.getD 0 ⟨#[]⟩).size:Int)).toNat 5)++bitsOf (IntKind.u64.wrap ((R.getD (k:Int).toNat Rw.zero).is.getD 0 0)).toNat 6)++bitsOf (IntKind.u64.wrap ((R.getD (k:Int).toNat Rw.zero).is.getD 1 0)).toNat 31)++bitsOf (IntKind.u64.wrap ((R.getD (k:Int).toNat Rw.zero).is.getD 2 0)).toNat 2) ((R.getD (k:Int).toNat Rw.zero).ss.getD 0 ⟨#[]⟩) 16)),true⟩])))] rfl ((fun (W0:World) (G:Nat→Prop)=>SyOk.mk2 Try.mixed dkHo_ok (FnsR.cons (F_rbits_ok (J:=dkI) (hx:=hardDk)) (FnsR.nil)) EqsOk.nil) W0 G) (LpsOk.cons (by kernel_rfl) (rbi_lp R ((R.getD (k:Int).toNat Rw.zero).ss.getD 0 ⟨#[]⟩) ((R.getD (k:Int).toNat Rw.zero).is.getD 0 0) ((R.getD (k:Int).toNat Rw.zero).is.getD 1 0) ((R.getD (k:Int).toNat Rw.zero).is.getD 2 0) ((((entsB R k++bitsOf (IntKind.u64.wrap (((R.getD (k:Int).toNat Rw.zero).ss.getD 0 ⟨#[]⟩).size:Int)).toNat 5)++bitsOf (IntKind.u64.wrap ((R.getD (k:Int).toNat Rw.zero).is.getD 0 0)).toNat 6)++bitsOf (IntKind.u64.wrap ((R.getD (k:Int).toNat Rw.zero).is.getD 1 0)).toNat 31)++bitsOf (IntKind.u64.wrap ((R.getD (k:Int).toNat Rw.zero).is.getD 2 0)).toNat 2) (by simp only [List.length_append,bitsOf_length];omega) _ rfl) (LpsOk.nil _)) (m2:=_) (fun w e h=>h) [false] 0 ps h1 h2 rfl trivial
  |true=>
   have hk1:=of_decide_eq_true hT
   have hW:IntKind.i64.wrap ((k:Int)+1)=((k+1:Nat):Int):=by rw [IntWalk.i64_in _ (by omega)];omega
   obtain ⟨ps,h1,h2⟩:=rbo_n R ((R.getD (k:Int).toNat Rw.zero).ss.getD 0 ⟨#[]⟩) ((R.getD (k:Int).toNat Rw.zero).is.getD 0 0) ((R.getD (k:Int).toNat Rw.zero).is.getD 1 0) ((R.getD (k:Int).toNat Rw.zero).is.getD 2 0) (entsB R k) ((((entsB R k++bitsOf (IntKind.u64.wrap (((R.getD (k:Int).toNat Rw.zero).ss.getD 0 ⟨#[]⟩).size:Int)).toNat 5)++bitsOf (IntKind.u64.wrap ((R.getD (k:Int).toNat Rw.zero).is.getD 0 0)).toNat 6)++bitsOf (IntKind.u64.wrap ((R.getD (k:Int).toNat Rw.zero).is.getD 1 0)).toNat 31)++bitsOf (IntKind.u64.wrap ((R.getD (k:Int).toNat Rw.zero).is.getD 2 0)).toNat 2) (entsB R (k+1)) (k:Int) ((k+1:Nat):Int) k f hT hW (by omega) rfl rfl rfl rfl rfl (by rw [Int.toNat_natCast];rfl) (by rw [bitsOf_length];omega) (by simp only [List.length_append,bitsOf_length];omega) (by simp only [List.length_append,bitsOf_length];omega) (by simp only [List.length_append,bitsOf_length];omega)
   exact rnd_n (⟨Try.prog,[F_rbits (ξ:=Dk) (hx:=hardDk)],[],dkHo,Id'.one,60⟩:Sy Td) [(11,(lpG Id' 73 (hdC (loopsC (bodyOf Try.f123)) 1) 11 [(6,.c (.one (.v (.int .i64 ((0:Nat):Int))))),(3,.c (.one (.obj 11)))] [(5,.c (.one (.ptr 2 0)))] [⟨.us (.ext (.vw [true,false,false,false] R)),false⟩,⟨.dead,true⟩,⟨.blk [.v (.string ((R.getD (k:Int).toNat Rw.zero).ss.getD 0 ⟨#[]⟩)),.v (.int .i64 ((R.getD (k:Int).toNat Rw.zero).is.getD 0 0)),.v (.int .i64 ((R.getD (k:Int).toNat Rw.zero).is.getD 1 0)),.v (.int .i64 ((R.getD (k:Int).toNat Rw.zero).is.getD 2 0))],true⟩,⟨.dead,true⟩,⟨.dead,true⟩,⟨.dead,true⟩,⟨.dead,true⟩,⟨.dead,true⟩,⟨.dead,true⟩,⟨.dead,true⟩,⟨.dead,true⟩,⟨.us (.bts (nmB ((((entsB R k++bitsOf (IntKind.u64.wrap (((R.getD (k:Int).toNat Rw.zero).ss.getD 0 ⟨#[]⟩).size:Int)).toNat 5)++bitsOf (IntKind.u64.wrap ((R.getD (k:Int).toNat Rw.zero).is.getD 0 0)).toNat 6)++bitsOf (IntKind.u64.wrap ((R.getD (k:Int).toNat Rw.zero).is.getD 1 0)).toNat 31)++bitsOf (IntKind.u64.wrap ((R.getD (k:Int).toNat Rw.zero).is.getD 2 0)).toNat 2) ((R.getD (k:Int).toNat Rw.zero).ss.getD 0 ⟨#[]⟩) 0)),true⟩] (.leaf (.exit 2) [(3,.c (.one (.obj 11)))] [⟨.us (.ext (.vw [true,false,false,false] R)),false⟩,⟨.dead,true⟩,⟨.blk [.v (.string ((R.getD (k:Int).toNat Rw.zero).ss.getD 0 ⟨#[]⟩)),.v (.int .i64 ((R.getD (k:Int).toNat Rw.zero).is.getD 0 0)),.v (.int .i64 ((R.getD (k:Int).toNat Rw.zero).is.getD 1 0)),.v (.int .i64 ((R.getD (k:Int).toNat Rw.zero).is.getD 2 0))],true⟩,⟨.dead,true⟩,⟨.dead,true⟩,⟨.dead,true⟩,⟨.dead,true⟩,⟨.dead,true⟩,⟨.dead,true⟩,⟨.dead,true⟩,⟨.dead,true⟩,⟨.us (.bts (nmB ((((entsB R k++bitsOf (IntKind.u64.wrap (((R.getD (k:Int).toNat Rw.zero).ss.getD 0 ⟨#[]⟩).size:Int)).toNat 5)++bitsOf (IntKind.u64.wrap ((R.getD (k:Int).toNat Rw.zero).is.getD 0 0)).toNat 6)++bitsOf (IntKind.u64.wrap ((R.getD (k:Int).toNat Rw.zero).is.getD 1 0)).toNat 31)++bitsOf (IntKind.u64.wrap ((R.getD (k:Int).toNat Rw.zero).is.getD 2 0)).toNat 2) ((R.getD (k:Int).toNat Rw.zero).ss.getD 0 ⟨#[]⟩) 16)),true⟩])))] rfl ((fun (W0:World) (G:Nat→Prop)=>SyOk.mk2 Try.mixed dkHo_ok (FnsR.cons (F_rbits_ok (J:=dkI) (hx:=hardDk)) (FnsR.nil)) EqsOk.nil) W0 G) (LpsOk.cons (by kernel_rfl) (rbi_lp R ((R.getD (k:Int).toNat Rw.zero).ss.getD 0 ⟨#[]⟩) ((R.getD (k:Int).toNat Rw.zero).is.getD 0 0) ((R.getD (k:Int).toNat Rw.zero).is.getD 1 0) ((R.getD (k:Int).toNat Rw.zero).is.getD 2 0) ((((entsB R k++bitsOf (IntKind.u64.wrap (((R.getD (k:Int).toNat Rw.zero).ss.getD 0 ⟨#[]⟩).size:Int)).toNat 5)++bitsOf (IntKind.u64.wrap ((R.getD (k:Int).toNat Rw.zero).is.getD 0 0)).toNat 6)++bitsOf (IntKind.u64.wrap ((R.getD (k:Int).toNat Rw.zero).is.getD 1 0)).toNat 31)++bitsOf (IntKind.u64.wrap ((R.getD (k:Int).toNat Rw.zero).is.getD 2 0)).toNat 2) (by simp only [List.length_append,bitsOf_length];omega) _ rfl) (LpsOk.nil _)) (m2:=_) (fun w e h=>h) [true] ps h1 h2 rfl rfl (by omega) (by omega)
 ·revert hU
  match x with
  |.exit 0=>intro hU;simp only [Option.some.injEq] at hU;subst hU;exact hK
  |.normal=>intro hU;cases hU
  |.ret=>intro hU;cases hU
  |.exit (n+1)=>intro hU;cases hU
end Go.Proofs.Ytdenmoiaiemokaa
set_option linter.unusedVariables false
set_option linter.unusedSimpArgs false
namespace Go.Proofs.Ytdenmoiaiemokaa
open Go.RowKit
set_option maxRecDepth 100000 in
theorem rpad_n (R:List Rw) (x y:List UInt8) (k:Nat) (f:Nat→Value) (h0:decide ((x.length:Int)<(128:Int))=true) (h1:x.length+[UInt8.ofNat (Int.toNat (0:Int))].length≤1000000) (h2:(0:Int)≤(0:Int)∧(0:Int)<(256:Int)) (h3:(x++[UInt8.ofNat (Int.toNat (0:Int))])=y):∃ qs,alN Id' 3 [(8,.c (.one (.obj 3)))] [⟨.us (.ext (.vw [true,false,false,false] R)),false⟩,⟨.dead,true⟩,⟨.dead,true⟩,⟨.us (.own y),true⟩] ((symC (⟨Try.prog,[],[],dkHo,Id'.one,60⟩:Sy Td) [] 73 (hdC (loopsC (bodyOf Try.f123)) 2) ⟨[(8,.c (.one (.obj 3)))]++anyB' (writesC (hdC (loopsC (bodyOf Try.f123)) 2)) ([]++tabV f 73),[⟨.us (.ext (.vw [true,false,false,false] R)),false⟩,⟨.dead,true⟩,⟨.dead,true⟩,⟨.us (.own x),true⟩],0⟩).al [true])=some qs∧∀ q∈qs,q:=
 ⟨[decide ((↑x.length:Int)<(128:Int))=true,x.length+[UInt8.ofNat (Int.toNat (0:Int))].length≤(1000000:Nat),(0:Int)≤(0:Int)∧(0:Int)<(256:Int),Th.ext (Dk.vw [true,false,false,false] R)=Th.ext (Dk.vw [true,false,false,false] R),(Th.own (x++[UInt8.ofNat (Int.toNat (0:Int))]):Td)=Th.own y],by kernel_rfl,(by refine mcons ?_ (mcons ?_ (mcons ?_ (mcons ?_ (mcons ?_ mnil))))<;>first|(exact congrArg Th.own h3)|exact h0|exact h1|exact h2|exact h3|rfl|trivial)⟩
set_option maxRecDepth 100000 in
theorem rpad_x (R:List Rw) (x y:List UInt8) (k:Nat) (f:Nat→Value) (h0:decide ((x.length:Int)<(128:Int))=false) (h1:x=y):∃ qs,alX Id' 3 4 [(8,.c (.one (.obj 3)))] [⟨.us (.ext (.vw [true,false,false,false] R)),false⟩,⟨.dead,true⟩,⟨.dead,true⟩,⟨.us (.own y),true⟩] ((symC (⟨Try.prog,[],[],dkHo,Id'.one,60⟩:Sy Td) [] 73 (hdC (loopsC (bodyOf Try.f123)) 2) ⟨[(8,.c (.one (.obj 3)))]++anyB' (writesC (hdC (loopsC (bodyOf Try.f123)) 2)) ([]++tabV f 73),[⟨.us (.ext (.vw [true,false,false,false] R)),false⟩,⟨.dead,true⟩,⟨.dead,true⟩,⟨.us (.own x),true⟩],0⟩).al [false])=some qs∧∀ q∈qs,q:=
 ⟨[decide ((↑x.length:Int)<(128:Int))=false,Th.ext (Dk.vw [true,false,false,false] R)=Th.ext (Dk.vw [true,false,false,false] R),(Th.own x:Td)=Th.own y],by kernel_rfl,(by refine mcons ?_ (mcons ?_ (mcons ?_ mnil))<;>first|(exact congrArg Th.own h1)|exact h0|exact h1|rfl|trivial)⟩
def padL (x:List UInt8) (k:Nat):List UInt8:=x++List.replicate k 0
theorem padL_len (x:List UInt8) (k:Nat):(padL x k).length=x.length+k:=by simp [padL]
theorem padL_succ (x:List UInt8) (k:Nat):padL x k++[UInt8.ofNat (Int.toNat (0:Int))]=padL x (k+1):=by
 unfold padL
 rw [List.append_assoc,List.replicate_succ'];rfl
set_option maxRecDepth 100000 in
theorem rpad_lp (R:List Rw) (x:List UInt8) {W0:World} {G:Nat→Prop} (S0:Sy Td) (hS0:S0.P=Try.prog):LoopSound S0 Id' W0 G 73 (hdC (loopsC (bodyOf Try.f123)) 2) (lpG Id' 73 (hdC (loopsC (bodyOf Try.f123)) 2) 3 [(8,.c (.one (.obj 3)))] [] [⟨.us (.ext (.vw [true,false,false,false] R)),false⟩,⟨.dead,true⟩,⟨.dead,true⟩,⟨.us (.own (padL x 0)),true⟩] (.leaf (.exit 4) [(8,.c (.one (.obj 3)))] [⟨.us (.ext (.vw [true,false,false,false] R)),false⟩,⟨.dead,true⟩,⟨.dead,true⟩,⟨.us (.own (padL x (128 - x.length))),true⟩])):=by
 refine lp_sound (V:=fun k=>[(8,.c (.one (.obj 3)))]) (M:=(fun k=>[⟨.us (.ext (.vw [true,false,false,false] R)),false⟩,⟨.dead,true⟩,⟨.dead,true⟩,⟨.us (.own (padL x k)),true⟩]:Nat→Mem Td)) (N:=128 - x.length) (Ux:=fun k x'=>match x' with|.exit 4=>some ([(8,.c (.one (.obj 3)))],([⟨.us (.ext (.vw [true,false,false,false] R)),false⟩,⟨.dead,true⟩,⟨.dead,true⟩,⟨.us (.own (padL x (128 - x.length))),true⟩]:Mem Td))|_=>none) (X:=fun _ _=>True) (J:=fun k=>k≤128 - x.length) (fun k=>by kernel_rfl) (Nat.zero_le _) (fun k hk hJ f=>?_) (fun K hK k x' U hk hU hX=>?_)
 ·rw [hS0]
  have hn:=padL_len x k
  cases hT:decide (((padL x k).length:Int)<(128:Int)) with
  |false=>
   have hke:k=128 - x.length:=by have:=of_decide_eq_false hT;omega
   exact rnd_xD (⟨Try.prog,[],[],dkHo,Id'.one,60⟩:Sy Td) rfl ((fun (W0:World) (G:Nat→Prop)=>SyOk.mk2 Try.mixed dkHo_ok (FnsR.nil) EqsOk.nil) W0 G) (rpad_x R (padL x k) (padL x (128 - x.length)) k f hT (by rw [hke])) rfl trivial
  |true=>
   have hk1:=of_decide_eq_true hT
   exact rnd_nD (⟨Try.prog,[],[],dkHo,Id'.one,60⟩:Sy Td) rfl ((fun (W0:World) (G:Nat→Prop)=>SyOk.mk2 Try.mixed dkHo_ok (FnsR.nil) EqsOk.nil) W0 G) (rpad_n R (padL x k) (padL x (k+1)) k f hT (by show _+1≤_;omega) ⟨by decide,by decide⟩ (padL_succ x k)) rfl rfl (by omega) (by omega)
 ·revert hU
  match x' with
  |.normal=>intro hU;cases hU
  |.ret=>intro hU;cases hU
  |.exit n=>
   intro hU
   by_cases h:n=4
   ·subst h;simp only [Option.some.injEq] at hU;subst hU;exact hK
   ·exfalso;split at hU
    ·rename_i he;cases he;exact h rfl
    ·cases hU
end Go.Proofs.Ytdenmoiaiemokaa
set_option linter.unusedVariables false
set_option linter.unusedSimpArgs false
namespace Go.Proofs.Ytdenmoiaiemokaa
open Go.RowKit
theorem nil_btsT {l:List Bool} (h:l=[]):∀ w,Id'.holds (Th.bts l:Td) w nilV∧∀ j,¬ Id'.foot (Th.bts l:Td) w nilV j:=by
 subst h
 exact fun w=>⟨⟨0,Nat.zero_le _,owns_nilV w 0 _ _⟩,fun j h=>by cases h⟩
theorem padL_zero (x:List UInt8):x=padL x 0:=(List.append_nil x).symm
set_option maxRecDepth 100000 in
theorem rblk_w0 (R:List Rw) (y:List UInt8) (h0:R.length≤1000) (h1:padL (packed (entsB R R.length)) (128 - (packed (entsB R R.length)).length)=y) (h2:(entsB R R.length).length≤1000000):∃ qs,wayO Id' ([⟨.us (.ext (.vw [true,false,false,false] R)),false⟩]:Mem Td).length [⟨.us (.ext (.vw [true,false,false,false] R)),false⟩,⟨.dead,true⟩,⟨.dead,true⟩,⟨.us (.own y),true⟩] (.c (.one (.obj 3))) ((runFn (⟨Try.prog,[F_rbits (ξ:=Dk) (hx:=hardDk),F_rbytes (ξ:=Dk) (hx:=hardDk)],[],dkHo,Id'.one,60⟩:Sy Td) [(3,(lpG Id' 73 (hdC (loopsC (bodyOf Try.f123)) 0) 1 [(4,.c (.one (.v (.int .i64 ((0:Nat):Int))))),(3,.c (.one (.obj 1)))] [(0,.c (.one (.obj 0)))] [⟨.us (.ext (.vw [true,false,false,false] R)),false⟩,⟨.us (.bts (entsB R 0)),true⟩] (.leaf (.exit 0) [(3,.c (.one (.obj 1)))] [⟨.us (.ext (.vw [true,false,false,false] R)),false⟩,⟨.us (.bts (entsB R R.length)),true⟩]))),(18,(lpG Id' 73 (hdC (loopsC (bodyOf Try.f123)) 2) 3 [(8,.c (.one (.obj 3)))] [] [⟨.us (.ext (.vw [true,false,false,false] R)),false⟩,⟨.dead,true⟩,⟨.dead,true⟩,⟨.us (.own (padL (packed (entsB R R.length)) 0)),true⟩] (.leaf (.exit 4) [(8,.c (.one (.obj 3)))] [⟨.us (.ext (.vw [true,false,false,false] R)),false⟩,⟨.dead,true⟩,⟨.dead,true⟩,⟨.us (.own (padL (packed (entsB R R.length)) (128 - (packed (entsB R R.length)).length))),true⟩])))] Try.f123 [.one (.obj 0)] [⟨.us (.ext (.vw [true,false,false,false] R)),false⟩]).al [])=some qs∧∀ q∈qs,q:=
 ⟨[Th.ext (Dk.vw [true,false,false,false] R)=Th.ext (Dk.vw [true,false,false,false] R),∀ (w:World),Id'.holds (Th.bts (entsB R (0:Nat))) w nilV∧∀ (j:Nat),¬Id'.foot (Th.bts (entsB R (0:Nat))) w nilV j,Value.int IntKind.i64 (Int.ofNat 0)=Value.int IntKind.i64 (Int.ofNat (0:Nat)),(entsB R R.length).length≤(1000000:Nat),Th.ext (Dk.vw [true,false,false,false] R)=Th.ext (Dk.vw [true,false,false,false] R),(Th.own (packed (entsB R R.length)):Td)=Th.own (padL (packed (entsB R R.length)) 0),Th.ext (Dk.vw [true,false,false,false] R)=Th.ext (Dk.vw [true,false,false,false] R),(Th.own (padL (packed (entsB R R.length)) (128 - (packed (entsB R R.length)).length)):Td)=Th.own y],by kernel_rfl,(mcons rfl (mcons (nil_btsT rfl) (mcons rfl (mcons h2 (mcons rfl (mcons (congrArg Th.own (padL_zero _)) (mcons rfl (mcons (congrArg Th.own h1) mnil))))))))⟩
def blkD (R:List Rw):List UInt8:=padL (packed (entsB R R.length)) (128 - (packed (entsB R R.length)).length)
def C_rblk:Ctr Td:=fun us sub=>match us,sub with
 |[.one (.obj 0)],[⟨.us (.ext (.vw [true,false,false,false] R)),false⟩]=>some ([R.length≤1000],.c (.one (.obj 3)),[⟨.us (.ext (.vw [true,false,false,false] R)),false⟩,⟨.dead,true⟩,⟨.dead,true⟩,⟨.us (.own (blkD R)),true⟩])
 |_,_=>none
set_option maxRecDepth 100000 in
theorem C_rblk_ok:CtrOk Try.prog Id' 123 C_rblk:=by
 intro us sub ps x sm h hp w e vs hM ha
 unfold C_rblk at h
 split at h
 ·rename_i R
  simp only [Option.some.injEq,Prod.mk.injEq] at h
  obtain ⟨rfl,rfl,rfl⟩:=h
  have hL:R.length≤1000:=hp _ (List.mem_cons_self ..)
  exact ctr_way (I:=Id') (fun (W0:World) (G:Nat→Prop)=>SyOk.mk2 Try.mixed dkHo_ok (FnsR.cons (F_rbits_ok (J:=dkI) (hx:=hardDk)) (FnsR.cons (F_rbytes_ok (J:=dkI) (hx:=hardDk)) (FnsR.nil))) EqsOk.nil) rfl Try.func123 (by kernel_rfl) (fun _ _=>LpsOk.cons (by kernel_rfl) (rbo_lp R hL _ rfl) (LpsOk.cons (by kernel_rfl) (rpad_lp R (packed (entsB R R.length)) _ rfl) (LpsOk.nil _))) (cs:=[]) (by kernel_rfl) (rblk_w0 R (blkD R) hL rfl (by rw [entsB_len];omega)) w e vs hM ha
 ·cases h
theorem R_rblk:RowOk Try.prog Id' hardD 123 (ctrF Id' C_rblk hardD):=ctrF_ok Try.call123 C_rblk_ok
end Go.Proofs.Ytdenmoiaiemokaa
set_option linter.unusedVariables false
set_option linter.unusedSimpArgs false
namespace Go.Proofs.Ytdenmoiaiemokaa
open Go.RowKit
def m5D (X:List Rw):Int:=bif decide ((X.length:Int)>(5:Int)) then (5:Int) else (X.length:Int)
theorem m5D_is (X:List Rw):m5D X=m5 X:=by
 unfold m5D m5
 by_cases h:(5:Int)<(X.length:Int)
 ·rw [if_pos h,decide_eq_true (show (X.length:Int)>5 from h)];rfl
 ·rw [if_neg h,decide_eq_false (show ¬ (X.length:Int)>5 from h)];rfl
set_option maxRecDepth 100000 in
theorem rbl_n (R X X2 Y:List Rw) (O O2:List (List UInt8)) (k:Nat) (f:Nat→Value) (h0:decide ((X.length:Int)>0)=true) (h1:(TB.bs O).n+(TB.bs [blkD (List.take ((m5D X).toNat - Int.toNat 0) (List.drop (Int.toNat 0) X))]).n≤100000) (h2:(List.take ((m5D X).toNat - Int.toNat 0) (List.drop (Int.toNat 0) X)).length≤1000) (h3:(0:Int)≤(0:Int)∧(0:Int)≤m5D X∧m5D X≤(X.length:Int)) (h4:(0:Int)≤m5D X∧m5D X≤(X.length:Int)∧(X.length:Int)≤(X.length:Int)) (h5:(List.take ((X.length:Int).toNat - (m5D X).toNat) (List.drop (m5D X).toNat X))=X2) (h6:O++[blkD (List.take ((m5D X).toNat - Int.toNat 0) (List.drop (Int.toNat 0) X))]=O2):∃ qs,alN Id' 1 [(0,.c (.one (.obj 1))),(4,.c (.one (.obj 2)))] [⟨.us (.ext (.vw [true,false,false,false] R)),false⟩,⟨.us (.ext (.vw [true,false,false,false] X2)),false⟩,⟨.us (.ext (.tab (.bs O2))),true⟩] ((symC (⟨Try.prog,[(123,ctrF Id' C_rblk hardD)],[],dkHo,Id'.one,60⟩:Sy Td) [] 30 (hdC (loopsC (bodyOf Try.f59)) 0) ⟨[(0,.c (.one (.obj 1))),(4,.c (.one (.obj 2)))]++anyB' (writesC (hdC (loopsC (bodyOf Try.f59)) 0)) ([]++tabV f 30),[⟨.us (.ext (.vw [true,false,false,false] R)),false⟩,⟨.us (.ext (.vw [true,false,false,false] X)),false⟩,⟨.us (.ext (.tab (.bs O))),true⟩],0⟩).al [true])=some qs∧∀ q∈qs,q:=
 ⟨[decide ((↑X.length:Int)>(0:Int))=true,(TB.bs O).n+(TB.bs [blkD (List.take ((bif decide ((↑X.length:Int)>(5:Int)) then (5:Int) else (↑X.length:Int)).toNat - Int.toNat (0:Int)) (List.drop (Int.toNat (0:Int)) X))]).n≤(100000:Nat),(List.take ((bif decide ((↑X.length:Int)>(5:Int)) then (5:Int) else (↑X.length:Int)).toNat - Int.toNat (0:Int)) (List.drop (Int.toNat (0:Int)) X)).length≤(1000:Nat),(0:Int)≤(0:Int)∧((0:Int)≤bif decide ((↑X.length:Int)>(5:Int)) then (5:Int) else (↑X.length:Int))∧(bif decide ((↑X.length:Int)>(5:Int)) then (5:Int) else (↑X.length:Int))≤(↑X.length:Int),((0:Int)≤bif decide ((↑X.length:Int)>(5:Int)) then (5:Int) else (↑X.length:Int))∧(bif decide ((↑X.length:Int)>(5:Int)) then (5:Int) else (↑X.length:Int))≤(↑X.length:Int)∧(↑X.length:Int)≤(↑X.length:Int),Th.ext (Dk.vw [true,false,false,false] R)=Th.ext (Dk.vw [true,false,false,false] R),(Th.ext (Dk.vw [true,false,false,false] (List.take ((X.length:Int).toNat - (m5D X).toNat) (List.drop (m5D X).toNat X))):Td)=Th.ext (Dk.vw [true,false,false,false] X2),(Th.ext (Dk.tab (TB.bs (O++[blkD (List.take ((m5D X).toNat - Int.toNat 0) (List.drop (Int.toNat 0) X))]))):Td)=Th.ext (Dk.tab (TB.bs O2))],by kernel_rfl,(mcons h0 (mcons h1 (mcons h2 (mcons h3 (mcons h4 (mcons rfl (mcons (congrArg (fun x=>(Th.ext (Dk.vw [true,false,false,false] x):Td)) h5) (mcons (congrArg (fun x=>(Th.ext (Dk.tab (TB.bs x)):Td)) h6) mnil))))))))⟩
set_option maxRecDepth 100000 in
theorem rbl_x (R X X2 Y:List Rw) (O O2:List (List UInt8)) (k:Nat) (f:Nat→Value) (h0:decide ((X.length:Int)>0)=false) (h1:X=X2) (h2:O=O2):∃ qs,alX Id' 1 0 [(4,.c (.one (.obj 2)))] [⟨.us (.ext (.vw [true,false,false,false] R)),false⟩,⟨.us (.ext (.vw [true,false,false,false] X2)),false⟩,⟨.us (.ext (.tab (.bs O2))),true⟩] ((symC (⟨Try.prog,[(123,ctrF Id' C_rblk hardD)],[],dkHo,Id'.one,60⟩:Sy Td) [] 30 (hdC (loopsC (bodyOf Try.f59)) 0) ⟨[(0,.c (.one (.obj 1))),(4,.c (.one (.obj 2)))]++anyB' (writesC (hdC (loopsC (bodyOf Try.f59)) 0)) ([]++tabV f 30),[⟨.us (.ext (.vw [true,false,false,false] R)),false⟩,⟨.us (.ext (.vw [true,false,false,false] X)),false⟩,⟨.us (.ext (.tab (.bs O))),true⟩],0⟩).al [false])=some qs∧∀ q∈qs,q:=
 ⟨[decide ((↑X.length:Int)>(0:Int))=false,Th.ext (Dk.vw [true,false,false,false] R)=Th.ext (Dk.vw [true,false,false,false] R),Th.ext (Dk.vw [true,false,false,false] X)=Th.ext (Dk.vw [true,false,false,false] X2),Th.ext (Dk.tab (TB.bs O))=Th.ext (Dk.tab (TB.bs O2))],by kernel_rfl,(by refine mcons ?_ (mcons ?_ (mcons ?_ (mcons ?_ mnil)))<;>first|(exact congrArg (fun x=>(Th.ext (Dk.vw [true,false,false,false] x):Td)) h1)|(exact congrArg (fun x=>(Th.ext (Dk.tab (TB.bs x)):Td)) h2)|rfl|exact h0|exact h1|exact h2|trivial)⟩
def blksD (R:List Rw):Nat→List (List UInt8)
 |0=>[]
 |k+1=>blksD R k++[blkD ((R.drop (5 * k)).take 5)]
theorem blksD_len (R:List Rw):∀ k,(blksD R k).length=k
 |0=>rfl
 |k+1=>by simp [blksD,blksD_len R k]
set_option maxRecDepth 100000 in
theorem rbl_lp (R:List Rw) (hR:R.length≤1000) {W0:World} {G:Nat→Prop} (S0:Sy Td) (hS0:S0.P=Try.prog):LoopSound S0 Id' W0 G 30 (hdC (loopsC (bodyOf Try.f59)) 0) (lpG Id' 30 (hdC (loopsC (bodyOf Try.f59)) 0) 1 [(0,.c (.one (.obj 1))),(4,.c (.one (.obj 2)))] [] [⟨.us (.ext (.vw [true,false,false,false] R)),false⟩,⟨.us (.ext (.vw [true,false,false,false] (R.drop (5 * 0)))),false⟩,⟨.us (.ext (.tab (.bs (blksD R 0)))),true⟩] (.leaf (.exit 0) [(4,.c (.one (.obj 2)))] [⟨.us (.ext (.vw [true,false,false,false] R)),false⟩,⟨.us (.ext (.vw [true,false,false,false] (R.drop (5 * nbR R)))),false⟩,⟨.us (.ext (.tab (.bs (blksD R (nbR R))))),true⟩])):=by
 refine lp_sound (V:=fun k=>[(0,.c (.one (.obj 1))),(4,.c (.one (.obj 2)))]) (M:=(fun k=>[⟨.us (.ext (.vw [true,false,false,false] R)),false⟩,⟨.us (.ext (.vw [true,false,false,false] (R.drop (5 * k)))),false⟩,⟨.us (.ext (.tab (.bs (blksD R k)))),true⟩]:Nat→Mem Td)) (N:=nbR R) (Ux:=fun k x=>match x with|.exit 0=>some ([(4,.c (.one (.obj 2)))],([⟨.us (.ext (.vw [true,false,false,false] R)),false⟩,⟨.us (.ext (.vw [true,false,false,false] (R.drop (5 * nbR R)))),false⟩,⟨.us (.ext (.tab (.bs (blksD R (nbR R))))),true⟩]:Mem Td))|_=>none) (X:=fun _ _=>True) (J:=fun k=>k≤nbR R) (fun k=>by kernel_rfl) (Nat.zero_le _) (fun k hk hJ f=>?_) (fun K hK k x U hk hU hX=>?_)
 ·rw [hS0]
  have hXl:(R.drop (5 * k)).length=R.length - 5 * k:=List.length_drop ..
  cases hT:decide (((R.drop (5 * k)).length:Int)>0) with
  |false=>
   have hke:k=nbR R:=by have:=of_decide_eq_false hT;unfold nbR at hJ ⊢;omega
   exact rnd_xD (⟨Try.prog,[(123,ctrF Id' C_rblk hardD)],[],dkHo,Id'.one,60⟩:Sy Td) rfl ((fun (W0:World) (G:Nat→Prop)=>SyOk.mk2 Try.mixed dkHo_ok (FnsR.cons (R_rblk) (FnsR.nil)) EqsOk.nil) W0 G) (rbl_x R (R.drop (5 * k)) (R.drop (5 * nbR R)) [] (blksD R k) (blksD R (nbR R)) k f hT (by rw [hke]) (by rw [hke])) rfl trivial
  |true=>
   have hk1:=of_decide_eq_true hT
   have hk2:k<nbR R:=by unfold nbR at hJ ⊢;omega
   have hm:=m5_le (R.drop (5 * k))
   have ht:=take_m5 (R.drop (5 * k))
   have hd:=drop_m5 (R.drop (5 * k))
   rw [← m5D_is] at hm ht hd
   have hbl:(blksD R k).length=k:=blksD_len R k
   exact rnd_nD (⟨Try.prog,[(123,ctrF Id' C_rblk hardD)],[],dkHo,Id'.one,60⟩:Sy Td) rfl ((fun (W0:World) (G:Nat→Prop)=>SyOk.mk2 Try.mixed dkHo_ok (FnsR.cons (R_rblk) (FnsR.nil)) EqsOk.nil) W0 G) (rbl_n R (R.drop (5 * k)) (R.drop (5 * (k+1))) [] (blksD R k) (blksD R (k+1)) k f hT (by
    show (blksD R k).length+1≤100000
    unfold nbR at hk2;omega) (by rw [ht];have:=List.length_take_le 5 (R.drop (5 * k));omega) ⟨Int.le_refl _,hm.1,hm.2⟩ ⟨hm.1,hm.2,Int.le_refl _⟩ (by rw [hd,List.drop_drop,Nat.mul_succ]) (by rw [ht];rfl)) rfl rfl hk2 (by omega)
 ·revert hU
  match x with
  |.exit 0=>intro hU;simp only [Option.some.injEq] at hU;subst hU;exact hK
  |.normal=>intro hU;cases hU
  |.ret=>intro hU;cases hU
  |.exit (n+1)=>intro hU;cases hU
end Go.Proofs.Ytdenmoiaiemokaa
set_option linter.unusedVariables false
set_option linter.unusedSimpArgs false
namespace Go.Proofs.Ytdenmoiaiemokaa
open Go.RowKit
set_option maxRecDepth 100000 in
theorem rbkA_w0 (R:List Rw) (h0:(!allI 0 R.length (riseD R))=true) (h1:R.length≤100000) (h2:NmsOk R):∃ qs,wayO Id' ([⟨.us (.ext (.vw [true,false,false,false] R)),false⟩]:Mem Td).length [⟨.us (.ext (.vw [true,false,false,false] R)),false⟩,⟨.us (.ext (.tab (.bs []))),true⟩] (.tup [.one (.obj 1),.one (.v (.int .i64 2))]) ((runFn (⟨Try.prog,[(122,ctrF Id' C_rrise hardD),(123,ctrF Id' C_rblk hardD)],[],dkHo,Id'.one,60⟩:Sy Td) [(6,(lpG Id' 30 (hdC (loopsC (bodyOf Try.f59)) 0) 1 [(0,.c (.one (.obj 1))),(4,.c (.one (.obj 2)))] [] [⟨.us (.ext (.vw [true,false,false,false] R)),false⟩,⟨.us (.ext (.vw [true,false,false,false] (R.drop (5 * 0)))),false⟩,⟨.us (.ext (.tab (.bs (blksD R 0)))),true⟩] (.leaf (.exit 0) [(4,.c (.one (.obj 2)))] [⟨.us (.ext (.vw [true,false,false,false] R)),false⟩,⟨.us (.ext (.vw [true,false,false,false] (R.drop (5 * nbR R)))),false⟩,⟨.us (.ext (.tab (.bs (blksD R (nbR R))))),true⟩])))] Try.f59 [.one (.obj 0)] [⟨.us (.ext (.vw [true,false,false,false] R)),false⟩]).al [true])=some qs∧∀ q∈qs,q:=
 ⟨[R.length≤(100000:Nat),NmsOk R,(!allI (0:Nat) R.length (riseD R))=true,Th.ext (Dk.vw [true,false,false,false] R)=Th.ext (Dk.vw [true,false,false,false] R),∀ (w:World),Id'.holds (Th.ext (Dk.tab (TB.bs []))) w nilV∧∀ (j:Nat),¬Id'.foot (Th.ext (Dk.tab (TB.bs []))) w nilV j,Value.int IntKind.i64 (Int.ofNat 2)=Value.int IntKind.i64 (Int.ofNat 2)],by kernel_rfl,(by refine mcons ?_ (mcons ?_ (mcons ?_ (mcons ?_ (mcons ?_ (mcons ?_ mnil)))))<;>first|rfl|exact h0|exact h1|exact h2|trivial|(exact nil_tab0 rfl))⟩
set_option maxRecDepth 100000 in
theorem rbkC_w0 (R:List Rw) (h0:(!allI 0 R.length (riseD R))=false) (h1:decide ((R.length:Int)>24)=true) (h2:R.length≤100000) (h3:NmsOk R):∃ qs,wayO Id' ([⟨.us (.ext (.vw [true,false,false,false] R)),false⟩]:Mem Td).length [⟨.us (.ext (.vw [true,false,false,false] R)),false⟩,⟨.us (.ext (.tab (.bs []))),true⟩] (.tup [.one (.obj 1),.one (.v (.int .i64 8))]) ((runFn (⟨Try.prog,[(122,ctrF Id' C_rrise hardD),(123,ctrF Id' C_rblk hardD)],[],dkHo,Id'.one,60⟩:Sy Td) [(6,(lpG Id' 30 (hdC (loopsC (bodyOf Try.f59)) 0) 1 [(0,.c (.one (.obj 1))),(4,.c (.one (.obj 2)))] [] [⟨.us (.ext (.vw [true,false,false,false] R)),false⟩,⟨.us (.ext (.vw [true,false,false,false] (R.drop (5 * 0)))),false⟩,⟨.us (.ext (.tab (.bs (blksD R 0)))),true⟩] (.leaf (.exit 0) [(4,.c (.one (.obj 2)))] [⟨.us (.ext (.vw [true,false,false,false] R)),false⟩,⟨.us (.ext (.vw [true,false,false,false] (R.drop (5 * nbR R)))),false⟩,⟨.us (.ext (.tab (.bs (blksD R (nbR R))))),true⟩])))] Try.f59 [.one (.obj 0)] [⟨.us (.ext (.vw [true,false,false,false] R)),false⟩]).al [false,true])=some qs∧∀ q∈qs,q:=
 ⟨[R.length≤(100000:Nat),NmsOk R,(!allI (0:Nat) R.length (riseD R))=false,decide ((↑R.length:Int)>(24:Int))=true,Th.ext (Dk.vw [true,false,false,false] R)=Th.ext (Dk.vw [true,false,false,false] R),∀ (w:World),Id'.holds (Th.ext (Dk.tab (TB.bs []))) w nilV∧∀ (j:Nat),¬Id'.foot (Th.ext (Dk.tab (TB.bs []))) w nilV j,Value.int IntKind.i64 (Int.ofNat 8)=Value.int IntKind.i64 (Int.ofNat 8)],by kernel_rfl,(by refine mcons ?_ (mcons ?_ (mcons ?_ (mcons ?_ (mcons ?_ (mcons ?_ (mcons ?_ mnil))))))<;>first|rfl|exact h0|exact h1|exact h2|exact h3|trivial|(exact nil_tab0 rfl))⟩
set_option maxRecDepth 100000 in
theorem rbkD_w0 (R:List Rw) (h0:(!allI 0 R.length (riseD R))=false) (h1:decide ((R.length:Int)>24)=false) (h2:R.length≤100000) (h3:NmsOk R):∃ qs,wayO Id' ([⟨.us (.ext (.vw [true,false,false,false] R)),false⟩]:Mem Td).length [⟨.us (.ext (.vw [true,false,false,false] R)),false⟩,⟨.us (.ext (.tab (.bs (blksD R (nbR R))))),true⟩] (.tup [.one (.obj 1),.one (.v (.int .i64 0))]) ((runFn (⟨Try.prog,[(122,ctrF Id' C_rrise hardD),(123,ctrF Id' C_rblk hardD)],[],dkHo,Id'.one,60⟩:Sy Td) [(6,(lpG Id' 30 (hdC (loopsC (bodyOf Try.f59)) 0) 1 [(0,.c (.one (.obj 1))),(4,.c (.one (.obj 2)))] [] [⟨.us (.ext (.vw [true,false,false,false] R)),false⟩,⟨.us (.ext (.vw [true,false,false,false] (R.drop (5 * 0)))),false⟩,⟨.us (.ext (.tab (.bs (blksD R 0)))),true⟩] (.leaf (.exit 0) [(4,.c (.one (.obj 2)))] [⟨.us (.ext (.vw [true,false,false,false] R)),false⟩,⟨.us (.ext (.vw [true,false,false,false] (R.drop (5 * nbR R)))),false⟩,⟨.us (.ext (.tab (.bs (blksD R (nbR R))))),true⟩])))] Try.f59 [.one (.obj 0)] [⟨.us (.ext (.vw [true,false,false,false] R)),false⟩]).al [false,false])=some qs∧∀ q∈qs,q:=
 ⟨[R.length≤(100000:Nat),NmsOk R,(!allI (0:Nat) R.length (riseD R))=false,decide ((↑R.length:Int)>(24:Int))=false,Th.ext (Dk.vw [true,false,false,false] R)=Th.ext (Dk.vw [true,false,false,false] R),Th.ext (Dk.vw [true,false,false,false] R)=Th.ext (Dk.vw [true,false,false,false] R),∀ (w:World),Id'.holds (Th.ext (Dk.tab (TB.bs (blksD R (0:Nat))))) w nilV∧∀ (j:Nat),¬Id'.foot (Th.ext (Dk.tab (TB.bs (blksD R (0:Nat))))) w nilV j,Th.ext (Dk.vw [true,false,false,false] R)=Th.ext (Dk.vw [true,false,false,false] R),Th.ext (Dk.tab (TB.bs (Nat.brecOn.go (nbR R) (blksD._f R)).1))=Th.ext (Dk.tab (TB.bs (Nat.brecOn.go (nbR R) (blksD._f R)).1)),Value.int IntKind.i64 (Int.ofNat 0)=Value.int IntKind.i64 (Int.ofNat 0)],by kernel_rfl,(by refine mcons ?_ (mcons ?_ (mcons ?_ (mcons ?_ (mcons ?_ (mcons ?_ (mcons ?_ (mcons ?_ (mcons ?_ (mcons ?_ mnil)))))))))<;>first|rfl|exact h0|exact h1|exact h2|exact h3|trivial|(exact nil_tab0 rfl))⟩
def rbE (R:List Rw):Int:=bif allI 0 R.length (riseD R) then (bif decide ((R.length:Int)>24) then 8 else 0) else 2
def rbB (R:List Rw):List (List UInt8):=bif allI 0 R.length (riseD R)&&!decide ((R.length:Int)>24) then blksD R (nbR R) else []
def C_rblocks:Ctr Td:=fun us sub=>match us,sub with
 |[.one (.obj 0)],[⟨.us (.ext (.vw [true,false,false,false] R)),false⟩]=>some ([R.length≤1000,NmsOk R],.tup [.one (.obj 1),.one (.v (.int .i64 (rbE R)))],[⟨.us (.ext (.vw [true,false,false,false] R)),false⟩,⟨.us (.ext (.tab (.bs (rbB R)))),true⟩])
 |_,_=>none
set_option maxRecDepth 100000 in
theorem C_rblocks_ok:CtrOk Try.prog Id' 59 C_rblocks:=by
 intro us sub ps x sm h hp w e vs hM ha
 unfold C_rblocks at h
 split at h
 ·rename_i R
  simp only [Option.some.injEq,Prod.mk.injEq] at h
  obtain ⟨rfl,rfl,rfl⟩:=h
  have hL:R.length≤1000:=hp _ (List.mem_cons_self ..)
  have hN:NmsOk R:=hp _ (List.mem_cons_of_mem _ (List.mem_cons_self ..))
  cases h1:(!allI 0 R.length (riseD R)) with
  |true=>
   have h1':allI 0 R.length (riseD R)=false:=by simpa using h1
   have hv:rbE R=2:=by unfold rbE;rw [h1'];rfl
   have hb:rbB R=[]:=by unfold rbB;rw [h1'];rfl
   rw [hv,hb]
   exact ctr_way (I:=Id') (fun (W0:World) (G:Nat→Prop)=>SyOk.mk2 Try.mixed dkHo_ok (FnsR.cons (R_rrise) (FnsR.cons (R_rblk) (FnsR.nil))) EqsOk.nil) rfl Try.func59 (by kernel_rfl) (fun _ _=>LpsOk.cons (by kernel_rfl) (rbl_lp R (by omega) _ rfl) (LpsOk.nil _)) (cs:=[true]) (by kernel_rfl) (rbkA_w0 R h1 (by omega) hN) w e vs hM ha
  |false=>
   have h1':allI 0 R.length (riseD R)=true:=by simpa using h1
   cases h3:decide ((R.length:Int)>24) with
   |true=>
    have hv:rbE R=8:=by unfold rbE;rw [h1',h3];rfl
    have hb:rbB R=[]:=by unfold rbB;rw [h1',h3];rfl
    rw [hv,hb]
    exact ctr_way (I:=Id') (fun (W0:World) (G:Nat→Prop)=>SyOk.mk2 Try.mixed dkHo_ok (FnsR.cons (R_rrise) (FnsR.cons (R_rblk) (FnsR.nil))) EqsOk.nil) rfl Try.func59 (by kernel_rfl) (fun _ _=>LpsOk.cons (by kernel_rfl) (rbl_lp R (by omega) _ rfl) (LpsOk.nil _)) (cs:=[false,true]) (by kernel_rfl) (rbkC_w0 R h1 h3 (by omega) hN) w e vs hM ha
   |false=>
    have hv:rbE R=0:=by unfold rbE;rw [h1',h3];rfl
    have hb:rbB R=blksD R (nbR R):=by unfold rbB;rw [h1',h3];rfl
    rw [hv,hb]
    exact ctr_way (I:=Id') (fun (W0:World) (G:Nat→Prop)=>SyOk.mk2 Try.mixed dkHo_ok (FnsR.cons (R_rrise) (FnsR.cons (R_rblk) (FnsR.nil))) EqsOk.nil) rfl Try.func59 (by kernel_rfl) (fun _ _=>LpsOk.cons (by kernel_rfl) (rbl_lp R (by omega) _ rfl) (LpsOk.nil _)) (cs:=[false,false]) (by kernel_rfl) (rbkD_w0 R h1 h3 (by omega) hN) w e vs hM ha
 ·cases h
theorem R_rblocks:RowOk Try.prog Id' hardD 59 (ctrF Id' C_rblocks hardD):=ctrF_ok Try.call59 C_rblocks_ok
end Go.Proofs.Ytdenmoiaiemokaa
set_option linter.unusedVariables false
namespace Go.Proofs.Ytdenmoiaiemokaa
open Go.RowKit
theorem less_tri:∀ a b:List UInt8,(!Op.bytesLess a b)=(Op.bytesLess b a||b==a)
 |[],[]=>rfl
 |[],y::ys=>rfl
 |x::xs,[]=>rfl
 |x::xs,y::ys=>by
  have ih:=less_tri xs ys
  simp only [Op.bytesLess]
  by_cases h1:x<y
  ·simp [h1,UInt8.lt_asymm h1,UInt8.ne_of_lt h1,(UInt8.ne_of_lt h1).symm]
  ·by_cases h2:y<x
   ·simp [h1,h2,UInt8.ne_of_lt h2,(UInt8.ne_of_lt h2).symm]
   ·have:x=y:=UInt8.le_antisymm (UInt8.not_lt.1 h2) (UInt8.not_lt.1 h1)
    subst this
    simp [h1,ih]
theorem allI_iff {o n:Nat} {p:Int→Bool}:allI o n p=true↔∀ i:Int,(o:Int)≤i→i.toNat<n→p i=true:=by
 rcases allI_cases o n p with ⟨h,g⟩|⟨h,i,g1,g2,g3⟩
 ·exact ⟨fun _=>g,fun _=>h⟩
 ·refine ⟨fun e=>(by rw [h] at e;cases e),fun e=>?_⟩
  rw [e i g1 g2] at g3;cases g3
theorem riseD_is (R:List Rw) (i:Int):riseD R i=(isI R i&&(!decide (i>0)||riseI R i)):=by
 unfold riseD riseI
 rw [← less_tri]
 cases isI R i<;>cases decide (i>0)<;>simp
theorem okP_is (R:List Rw):okP R=allI 0 R.length (riseD R):=by
 rw [Bool.eq_iff_iff]
 unfold okP
 rw [Bool.and_eq_true,allI_iff,allI_iff,allI_iff]
 constructor
 ·rintro ⟨h1,h2⟩ i h0 hn
  rw [riseD_is,h2 i h0 hn,Bool.true_and]
  by_cases h:i>0
  ·rw [h1 i (by omega) hn];simp
  ·rw [decide_eq_false h];rfl
 ·intro h
  refine ⟨fun i h0 hn=>?_,fun i h0 hn=>?_⟩
  ·have:=h i (by omega) hn
   rw [riseD_is,Bool.and_eq_true,decide_eq_true (show i>0 by omega)] at this
   simpa using this.2
  ·have:=h i h0 hn
   rw [riseD_is,Bool.and_eq_true] at this
   exact this.1
theorem dbE_is (R:List Rw):dbE R=rbE R:=by unfold dbE rbE;rw [okP_is]
end Go.Proofs.Ytdenmoiaiemokaa
set_option linter.unusedVariables false
namespace Go.Proofs.Ytdenmoiaiemokaa
open Go.RowKit
theorem put_fit {s:WS} {x n:Int} (he:s.err=0) (hf:fitsN x.toNat n):(s.put x n).bl=s.bl++bitsOf x.toNat n.toNat∧(s.put x n).err=0:=by
 simp only [WS.put,putL,putE]
 rw [if_pos ⟨he,hf⟩,if_neg (fun h=>h.2 hf)]
 exact ⟨rfl,he⟩
theorem chI_in (nm:ByteArray) (i:Int):0≤chI nm i∧chI nm i<256:=by
 unfold chI
 cases decide (i<(nm.size:Int)) with
 |true=>have:=(nm.data.toList.getD i.toNat 0).toNat_lt;simp only [cond_true];omega
 |false=>simp
theorem putN_fit {s:WS} (nm:ByteArray) (he:s.err=0):∀ k,(putN s nm k).bl=nmB s.bl nm k∧(putN s nm k).err=0
 |0=>⟨rfl,he⟩
 |k+1=>by
  obtain ⟨h1,h2⟩:=putN_fit nm he k
  have hc:=chI_in nm (k:Int)
  have h:=put_fit (x:=chI nm (k:Int)) (n:=8) h2 ⟨by decide,by decide,by show _<256;omega⟩
  refine ⟨?_,h.2⟩
  show ((putN s nm k).put (chI nm (k:Int)) 8).bl=nmB s.bl nm k++bitsOf (IntKind.u64.wrap (chI nm (k:Int))).toNat 8
  rw [h.1,h1,u64w_id (by omega)];rfl
theorem isE_in {nm:ByteArray} {a b c:Int} (h:isE nm a b c=true):nm.size<17∧(0<a∧a<41)∧(0≤b∧b<2147483648)∧(0<c∧c<3):=by
 unfold isE nameB at h
 simp only [Bool.and_eq_true,decide_eq_true_eq] at h
 omega
theorem putR_fit {s:WS} {r:Rw} (he:s.err=0) (h:isR r=true):(putR s r).bl=entB s.bl r∧(putR s r).err=0:=by
 obtain ⟨hn,ha,hb,hc⟩:=isE_in h
 have w1:=u64w_id (n:=((r.ss.getD 0 ⟨#[]⟩).size:Int)) (by omega)
 have w2:=u64w_id (n:=r.is.getD 0 0) (by omega)
 have w3:=u64w_id (n:=r.is.getD 1 0) (by omega)
 have w4:=u64w_id (n:=r.is.getD 2 0) (by omega)
 have p1:=put_fit (s:=s) (x:=IntKind.u64.wrap ((r.ss.getD 0 ⟨#[]⟩).size:Int)) (n:=5) he ⟨by decide,by decide,by rw [w1];show _<32;omega⟩
 have p2:=put_fit (x:=IntKind.u64.wrap (r.is.getD 0 0)) (n:=6) p1.2 ⟨by decide,by decide,by rw [w2];show _<64;omega⟩
 have p3:=put_fit (x:=IntKind.u64.wrap (r.is.getD 1 0)) (n:=31) p2.2 ⟨by decide,by decide,by rw [w3];show _<2147483648;omega⟩
 have p4:=put_fit (x:=IntKind.u64.wrap (r.is.getD 2 0)) (n:=2) p3.2 ⟨by decide,by decide,by rw [w4];show _<4;omega⟩
 have p5:=putN_fit (r.ss.getD 0 ⟨#[]⟩) p4.2 16
 refine ⟨?_,p5.2⟩
 show (putN _ _ 16).bl=_
 rw [p5.1,p4.1,p3.1,p2.1,p1.1];rfl
theorem putsW_fit {Y:List Rw} (h:∀ r∈Y,isR r=true):∀ k,k≤Y.length→(putsW .new Y k).bl=entsB Y k∧(putsW .new Y k).err=0
 |0,_=>⟨rfl,rfl⟩
 |k+1,hk=>by
  obtain ⟨h1,h2⟩:=putsW_fit h k (by omega)
  have hr:isR (Y.getD k Rw.zero)=true:=by
   rw [List.getD_eq_getElem?_getD,List.getElem?_eq_getElem (show k<Y.length by omega)]
   exact h _ (List.getElem_mem _)
  have p:=putR_fit (r:=Y.getD k Rw.zero) h2 hr
  refine ⟨?_,p.2⟩
  show (putR (putsW .new Y k) (Y.getD k Rw.zero)).bl=entB (entsB Y k) (Y.getD k Rw.zero)
  rw [p.1,h1]
theorem blk_is {Y:List Rw} (h:∀ r∈Y,isR r=true) (hl:Y.length≤5):blkP Y=blkD Y:=by
 obtain ⟨h1,h2⟩:=putsW_fit h Y.length (Nat.le_refl _)
 have ho:(putsW .new Y Y.length).out=packed (entsB Y Y.length):=by unfold WS.out;rw [if_pos h2,h1]
 have hn:=out_len Y hl
 unfold blkP blkD padL
 rw [w128 hl,ho]
 rw [ho] at hn
 congr 2
 omega
theorem blks_is {R:List Rw} (h:∀ r∈R,isR r=true):∀ k,blksP R k=blksD R k
 |0=>rfl
 |k+1=>by
  show blksP R k++_=blksD R k++_
  rw [blks_is h k,blk_is (fun r hr=>h r (List.mem_of_mem_drop (List.mem_of_mem_take hr))) (List.length_take_le ..)]
theorem dbB_is (R:List Rw):dbB R=rbB R:=by
 unfold dbB rbB
 rw [← okP_is]
 cases h:okP R with
 |false=>rfl
 |true=>
  rw [blks_is fun r hr=>?_]
  have h2:=(Bool.and_eq_true_iff.1 h).2
  obtain ⟨j,hj,rfl⟩:=List.getElem_of_mem hr
  have:=allI_iff.1 h2 (j:Int) (by omega) (by simpa using hj)
  unfold isI at this
  rw [Int.toNat_natCast,List.getD_eq_getElem?_getD,List.getElem?_eq_getElem hj] at this
  exact this
end Go.Proofs.Ytdenmoiaiemokaa
set_option linter.unusedVariables false
set_option linter.unusedSimpArgs false
namespace Go.Proofs.Ytdenmoiaiemokaa
open Go.RowKit
end Go.Proofs.Ytdenmoiaiemokaa
set_option linter.unusedVariables false
set_option linter.unusedSimpArgs false
namespace Go.Proofs.Ytdenmoiaiemokaa
open Go.RowKit
end Go.Proofs.Ytdenmoiaiemokaa
set_option linter.unusedVariables false
set_option linter.unusedSimpArgs false
namespace Go.Proofs.Ytdenmoiaiemokaa
open Go.RowKit
def gU (s:RS):UInt8:=UInt8.ofNat (IntKind.u8.wrap (s.num 8:Int)).toNat
def gL:Nat→RS→List UInt8
 |0,_=>[]
 |n+1,s=>gU s::gL n (s.get 8)
def gS:Nat→RS→RS
 |0,s=>s
 |n+1,s=>gS n (s.get 8)
def gN (s:RS):Int:=if (16:Int)<IntKind.i64.wrap (s.num 5:Int) then 16 else IntKind.i64.wrap (s.num 5:Int)
def g4 (s:RS):RS:=(((s.get 5).get 6).get 31).get 2
def gNm (s:RS):ByteArray:=⟨((gL 16 (g4 s)).take (gN s).toNat).toArray⟩
def gA (s:RS):Int:=IntKind.i64.wrap ((s.get 5).num 6:Int)
def gB (s:RS):Int:=IntKind.i64.wrap (((s.get 5).get 6).num 31:Int)
def gC (s:RS):Int:=IntKind.i64.wrap ((((s.get 5).get 6).get 31).num 2:Int)
def gE (s:RS):RS:=gS 16 (g4 s)
def gVs:Nat→RS→List Value
 |0,_=>[]
 |n+1,s=>.int .u8 (IntKind.u8.wrap (s.num 8:Int))::gVs n (s.get 8)
theorem u8w_in (x:Int):0≤IntKind.u8.wrap x∧IntKind.u8.wrap x<256:=by
 show 0≤x % 256∧x % 256<256
 omega
theorem u8w_bv (x:Int):(.int .u8 (IntKind.u8.wrap x):Value)=bv (UInt8.ofNat (IntKind.u8.wrap x).toNat):=by
 have h:=u8w_in x
 unfold bv
 congr 1
 rw [UInt8.toNat_ofNat']
 omega
theorem gVs_bv:∀ (n:Nat) (s:RS),gVs n s=(unb (gVs n s)).map bv
 |0,_=>rfl
 |n+1,s=>by
  show _::_=_::_
  congr 1
  ·exact u8w_bv _
  ·exact gVs_bv n (s.get 8)
theorem gN_le (s:RS):(gN s).toNat≤16:=by unfold gN;split<;>omega
theorem RS.num_lt (s:RS) (n:Nat):s.num (n:Int)<2 ^ n:=by
 unfold RS.num getV
 split
 ·have h:=val_lt (bitsFrom s.l s.at' (n:Int).toNat)
  refine Nat.lt_of_lt_of_le h (Nat.pow_le_pow_right (by decide) ?_)
  unfold bitsFrom
  rw [Int.toNat_natCast]
  exact List.length_take_le ..
 ·exact Nat.pow_pos (by decide)
theorem gN_in (s:RS):0≤gN s∧gN s≤16:=by
 have h:=RS.num_lt s 5
 have:IntKind.i64.wrap (s.num 5:Int)=(s.num 5:Int):=IntWalk.i64_in _ (by
  have:(s.num ((5:Nat):Int))<32:=h
  have e:(s.num ((5:Nat):Int))=s.num 5:=rfl
  omega)
 unfold gN
 rw [this]
 split<;>omega
set_option maxRecDepth 100000 in
theorem dget_w0 (s:RS):∃ qs,wayO Id' ([⟨.us (.rd s),true⟩]:Mem Td).length [⟨.us (.rd (gE s)),true⟩] (.c (.agg [.v (.string (gNm s)),.v (.int .i64 (gA s)),.v (.int .i64 (gB s)),.v (.int .i64 (gC s))])) ((runFn (⟨Try.prog,[F_get (ξ:=Dk) (hx:=hardDk)],[],dkHo,Id'.one,60⟩:Sy Td) [] Try.f125 [.one (.obj 0)] [⟨.us (.rd s),true⟩]).al [])=some qs∧∀ q∈qs,q:=
 ⟨[(gN s).toNat≤(gVs 16 (g4 s)).length∧(gN s).toNat≤16∧16≤maxLen,gVs 16 (g4 s)=(unb (gVs 16 (g4 s))).map bv,0≤gN s∧gN s≤16,(Th.rd (gE s):Td)=Th.rd (gE s),Value.string (gNm s)=Value.string (gNm s),Value.int .i64 (gA s)=Value.int .i64 (gA s),Value.int .i64 (gB s)=Value.int .i64 (gB s),Value.int .i64 (gC s)=Value.int .i64 (gC s)],by kernel_rfl,(mcons (⟨by show _≤16;exact gN_le s,gN_le s,by decide⟩) (mcons (gVs_bv 16 _) (mcons (gN_in s) (mcons (rfl) (mcons (rfl) (mcons (rfl) (mcons (rfl) (mcons (rfl) mnil))))))))⟩
def C_dget:Ctr Td:=fun us sub=>match us,sub with
 |[.one (.obj 0)],[⟨.us (.rd s),true⟩]=>some ([],.c (.agg [.v (.string (gNm s)),.v (.int .i64 (gA s)),.v (.int .i64 (gB s)),.v (.int .i64 (gC s))]),[⟨.us (.rd (gE s)),true⟩])
 |_,_=>none
set_option maxRecDepth 100000 in
theorem C_dget_ok:CtrOk Try.prog Id' 125 C_dget:=by
 intro us sub ps x sm h hp w e vs hM ha
 unfold C_dget at h
 split at h
 ·rename_i s
  simp only [Option.some.injEq,Prod.mk.injEq] at h
  obtain ⟨rfl,rfl,rfl⟩:=h
  exact ctr_way (I:=Id') (fun (W0:World) (G:Nat→Prop)=>SyOk.mk2 Try.mixed dkHo_ok (FnsR.cons (F_get_ok (J:=dkI) (hx:=hardDk)) (FnsR.nil)) EqsOk.nil) rfl Try.func125 (by kernel_rfl) (fun _ _=>LpsOk.nil _) (cs:=[]) (by kernel_rfl) (dget_w0 s ) w e vs hM ha
 ·cases h
theorem R_dget:RowOk Try.prog Id' hardD 125 (ctrF Id' C_dget hardD):=ctrF_ok Try.call125 C_dget_ok
end Go.Proofs.Ytdenmoiaiemokaa
set_option linter.unusedVariables false
set_option linter.unusedSimpArgs false
namespace Go.Proofs.Ytdenmoiaiemokaa
open Go.RowKit
def eqT (L M:List (List UInt8)) (i:Int):Bool:=decide (L.getD i.toNat []=M.getD i.toNat [])
set_option maxRecDepth 100000 in
theorem eqf_n (L M:List (List UInt8)) (i i2:Int) (k:Nat) (f:Nat→Value) (h0:decide (i<(L.length:Int))=true) (h1:IntKind.i64.wrap (i+1)=i2) (h2:0≤i∧i.toNat<L.length) (h3:eqT L M (i)=true) (h4:L.length=M.length):∃ qs,alN Id' 2 [(17,.c (.one (.v (.int .i64 i2))))] [⟨.us (.ext (.shr 1 L.length (tbE L))),false⟩,⟨.us (.ext (.shr 1 M.length (tbE M))),false⟩] ((symC (⟨Try.prog,[F_equal (ξ:=Dk)],[],dkHo,Id'.one,60⟩:Sy Td) [] 32 (hdC (loopsC (bodyOf Try.f126)) 0) ⟨[(17,.c (.one (.v (.int .i64 i))))]++anyB' (writesC (hdC (loopsC (bodyOf Try.f126)) 0)) ([(0,.c (.one (.obj 0))),(1,.c (.one (.obj 1))),(2,.c (.fn 127 [])),(15,.c (.one (.obj 0))),(16,.c (.one (.v (.int .i64 (L.length:Int)))))]++tabV f 32),[⟨.us (.ext (.shr 1 L.length (tbE L))),false⟩,⟨.us (.ext (.shr 1 M.length (tbE M))),false⟩],0⟩).al [true,false])=some qs∧∀ q∈qs,q:=
 ⟨[decide (i<(↑L.length:Int))=true,(0:Int)≤i∧i.toNat<L.length,(0:Int)≤i∧i.toNat<M.length,(!decide (L.getD i.toNat []=M.getD i.toNat []))=false,Th.ext (Dk.shr 1 L.length (tbE L))=Th.ext (Dk.shr 1 L.length (tbE L)),Th.ext (Dk.shr 1 M.length (tbE M))=Th.ext (Dk.shr 1 M.length (tbE M)),Value.int IntKind.i64 (IntKind.i64.wrap (i+(1:Int)))=Value.int IntKind.i64 i2],by kernel_rfl,(by refine mcons ?_ (mcons ?_ (mcons ?_ (mcons ?_ (mcons ?_ (mcons ?_ (mcons ?_ mnil))))))<;>first|rfl|exact h0|exact h1|exact h2|exact h3|exact h4|trivial|(exact congrArg _ h1)|(exact h2)|(exact ⟨h2.1,by omega⟩)|(exact congrArg (! ·) h3))⟩
set_option maxRecDepth 100000 in
theorem eqf_x (L M:List (List UInt8)) (i i2:Int) (k:Nat) (f:Nat→Value) (h0:decide (i<(L.length:Int))=false):∃ qs,alX Id' 2 0 [] [⟨.us (.ext (.shr 1 L.length (tbE L))),false⟩,⟨.us (.ext (.shr 1 M.length (tbE M))),false⟩] ((symC (⟨Try.prog,[F_equal (ξ:=Dk)],[],dkHo,Id'.one,60⟩:Sy Td) [] 32 (hdC (loopsC (bodyOf Try.f126)) 0) ⟨[(17,.c (.one (.v (.int .i64 i))))]++anyB' (writesC (hdC (loopsC (bodyOf Try.f126)) 0)) ([(0,.c (.one (.obj 0))),(1,.c (.one (.obj 1))),(2,.c (.fn 127 [])),(15,.c (.one (.obj 0))),(16,.c (.one (.v (.int .i64 (L.length:Int)))))]++tabV f 32),[⟨.us (.ext (.shr 1 L.length (tbE L))),false⟩,⟨.us (.ext (.shr 1 M.length (tbE M))),false⟩],0⟩).al [false])=some qs∧∀ q∈qs,q:=
 ⟨[decide (i<(↑L.length:Int))=false,Th.ext (Dk.shr 1 L.length (tbE L))=Th.ext (Dk.shr 1 L.length (tbE L)),Th.ext (Dk.shr 1 M.length (tbE M))=Th.ext (Dk.shr 1 M.length (tbE M))],by kernel_rfl,(by refine mcons ?_ (mcons ?_ (mcons ?_ mnil))<;>first|rfl|exact h0|trivial|(exact congrArg _ h1)|(exact h2)|(exact ⟨h2.1,by omega⟩)|(exact congrArg (! ·) h3))⟩
set_option maxRecDepth 100000 in
theorem eqf_r (L M:List (List UInt8)) (i i2:Int) (k:Nat) (f:Nat→Value) (h0:decide (i<(L.length:Int))=true) (h1:IntKind.i64.wrap (i+1)=i2) (h2:0≤i∧i.toNat<L.length) (h3:eqT L M (i)=false) (h4:L.length=M.length):∃ qs,alR Id' 2 [(6,.c (.one (.kB false)))] [⟨.us (.ext (.shr 1 L.length (tbE L))),false⟩,⟨.us (.ext (.shr 1 M.length (tbE M))),false⟩] ((symC (⟨Try.prog,[F_equal (ξ:=Dk)],[],dkHo,Id'.one,60⟩:Sy Td) [] 32 (hdC (loopsC (bodyOf Try.f126)) 0) ⟨[(17,.c (.one (.v (.int .i64 i))))]++anyB' (writesC (hdC (loopsC (bodyOf Try.f126)) 0)) ([(0,.c (.one (.obj 0))),(1,.c (.one (.obj 1))),(2,.c (.fn 127 [])),(15,.c (.one (.obj 0))),(16,.c (.one (.v (.int .i64 (L.length:Int)))))]++tabV f 32),[⟨.us (.ext (.shr 1 L.length (tbE L))),false⟩,⟨.us (.ext (.shr 1 M.length (tbE M))),false⟩],0⟩).al [true,true])=some qs∧∀ q∈qs,q:=
 ⟨[decide (i<(↑L.length:Int))=true,(0:Int)≤i∧i.toNat<L.length,(0:Int)≤i∧i.toNat<M.length,(!decide (L.getD i.toNat []=M.getD i.toNat []))=true,Th.ext (Dk.shr 1 L.length (tbE L))=Th.ext (Dk.shr 1 L.length (tbE L)),Th.ext (Dk.shr 1 M.length (tbE M))=Th.ext (Dk.shr 1 M.length (tbE M)),Value.bool false=Value.bool false],by kernel_rfl,(by refine mcons ?_ (mcons ?_ (mcons ?_ (mcons ?_ (mcons ?_ (mcons ?_ (mcons ?_ mnil))))))<;>first|rfl|exact h0|exact h1|exact h2|exact h3|exact h4|trivial|(exact congrArg _ h1)|(exact h2)|(exact ⟨h2.1,by omega⟩)|(exact congrArg (! ·) h3))⟩
set_option maxRecDepth 100000 in
theorem eqf_lpA (L M:List (List UInt8)) (hL:L.length≤100000) (x0:L.length=M.length) (hall:∀ i:Int,0≤i→i.toNat<L.length→eqT L M (i)=true) {W0:World} {G:Nat→Prop} (S0:Sy Td) (hS0:S0.P=Try.prog):LoopSound S0 Id' W0 G 32 (hdC (loopsC (bodyOf Try.f126)) 0) (lpG Id' 32 (hdC (loopsC (bodyOf Try.f126)) 0) 2 [(17,.c (.one (.v (.int .i64 ((0+0:Nat):Int)))))] [(0,.c (.one (.obj 0))),(1,.c (.one (.obj 1))),(2,.c (.fn 127 [])),(15,.c (.one (.obj 0))),(16,.c (.one (.v (.int .i64 (L.length:Int)))))] [⟨.us (.ext (.shr 1 L.length (tbE L))),false⟩,⟨.us (.ext (.shr 1 M.length (tbE M))),false⟩] (.leaf (.exit 0) [] [⟨.us (.ext (.shr 1 L.length (tbE L))),false⟩,⟨.us (.ext (.shr 1 M.length (tbE M))),false⟩])):=by
 refine lp_sound (V:=fun k=>[(17,.c (.one (.v (.int .i64 ((k+0:Nat):Int)))))]) (M:=(fun k=>[⟨.us (.ext (.shr 1 L.length (tbE L))),false⟩,⟨.us (.ext (.shr 1 M.length (tbE M))),false⟩]:Nat→Mem Td)) (N:=L.length) (Ux:=fun k x=>match x with|.exit 0=>some ([],([⟨.us (.ext (.shr 1 L.length (tbE L))),false⟩,⟨.us (.ext (.shr 1 M.length (tbE M))),false⟩]:Mem Td))|_=>none) (X:=fun _ _=>True) (J:=fun k=>True) (fun k=>by kernel_rfl) trivial (fun k hk hJ f=>?_) (fun K hK k x U hk hU hX=>?_)
 ·rw [hS0]
  cases hT:decide (((k+0:Nat):Int)<(L.length:Int)) with
  |false=>
   exact rnd_xD (⟨Try.prog,[F_equal (ξ:=Dk)],[],dkHo,Id'.one,60⟩:Sy Td) rfl ((fun (W0:World) (G:Nat→Prop)=>SyOk.mk2 Try.mixed dkHo_ok (FnsR.cons (F_equal_ok (J:=dkI) (hx:=hardDk)) (FnsR.nil)) EqsOk.nil) W0 G) (eqf_x L M ((k+0:Nat):Int) ((k+1+0:Nat):Int) k f hT) rfl trivial
  |true=>
   have hk1:=of_decide_eq_true hT
   have hW:IntKind.i64.wrap (((k+0:Nat):Int)+1)=((k+1+0:Nat):Int):=by rw [IntWalk.i64_in _ (by omega)];omega
   exact rnd_nD (⟨Try.prog,[F_equal (ξ:=Dk)],[],dkHo,Id'.one,60⟩:Sy Td) rfl ((fun (W0:World) (G:Nat→Prop)=>SyOk.mk2 Try.mixed dkHo_ok (FnsR.cons (F_equal_ok (J:=dkI) (hx:=hardDk)) (FnsR.nil)) EqsOk.nil) W0 G) (eqf_n L M ((k+0:Nat):Int) ((k+1+0:Nat):Int) k f hT hW (by omega) (hall _ (by omega) (by omega)) x0) rfl rfl (by omega) trivial
 ·revert hU
  match x with
  |.exit 0=>intro hU;simp only [Option.some.injEq] at hU;subst hU;exact hK
  |.normal=>intro hU;cases hU
  |.ret=>intro hU;cases hU
  |.exit (n+1)=>intro hU;cases hU
set_option maxRecDepth 100000 in
theorem eqf_lpR (L M:List (List UInt8)) (hL:L.length≤100000) (x0:L.length=M.length) (hex:∃ i:Int,0≤i∧i.toNat<L.length∧eqT L M (i)=false) {W0:World} {G:Nat→Prop} (S0:Sy Td) (hS0:S0.P=Try.prog):LoopSound S0 Id' W0 G 32 (hdC (loopsC (bodyOf Try.f126)) 0) (lpG Id' 32 (hdC (loopsC (bodyOf Try.f126)) 0) 2 [(17,.c (.one (.v (.int .i64 ((0+0:Nat):Int)))))] [(0,.c (.one (.obj 0))),(1,.c (.one (.obj 1))),(2,.c (.fn 127 [])),(15,.c (.one (.obj 0))),(16,.c (.one (.v (.int .i64 (L.length:Int)))))] [⟨.us (.ext (.shr 1 L.length (tbE L))),false⟩,⟨.us (.ext (.shr 1 M.length (tbE M))),false⟩] (.leaf .ret [(6,.c (.one (.kB false)))] [⟨.us (.ext (.shr 1 L.length (tbE L))),false⟩,⟨.us (.ext (.shr 1 M.length (tbE M))),false⟩])):=by
 refine lp_sound (V:=fun k=>[(17,.c (.one (.v (.int .i64 ((k+0:Nat):Int)))))]) (M:=(fun k=>[⟨.us (.ext (.shr 1 L.length (tbE L))),false⟩,⟨.us (.ext (.shr 1 M.length (tbE M))),false⟩]:Nat→Mem Td)) (N:=L.length) (Ux:=fun k x=>match x with|.ret=>some ([(6,.c (.one (.kB false)))],([⟨.us (.ext (.shr 1 L.length (tbE L))),false⟩,⟨.us (.ext (.shr 1 M.length (tbE M))),false⟩]:Mem Td))|_=>none) (X:=fun _ _=>True) (J:=fun k=>∀ i:Int,0≤i→i<((k+0:Nat):Int)→eqT L M (i)=true) (fun k=>by kernel_rfl) (fun i h0 h1=>by omega) (fun k hk hJ f=>?_) (fun K hK k x U hk hU hX=>?_)
 ·rw [hS0]
  cases hT:decide (((k+0:Nat):Int)<(L.length:Int)) with
  |false=>
   obtain ⟨j,j0,j1,j2⟩:=hex
   have:=of_decide_eq_false hT
   rw [hJ j j0 (by omega)] at j2
   cases j2
  |true=>
   have hk1:=of_decide_eq_true hT
   have hW:IntKind.i64.wrap (((k+0:Nat):Int)+1)=((k+1+0:Nat):Int):=by rw [IntWalk.i64_in _ (by omega)];omega
   cases hq:eqT L M (((k+0:Nat):Int)) with
   |true=>exact rnd_nD (⟨Try.prog,[F_equal (ξ:=Dk)],[],dkHo,Id'.one,60⟩:Sy Td) rfl ((fun (W0:World) (G:Nat→Prop)=>SyOk.mk2 Try.mixed dkHo_ok (FnsR.cons (F_equal_ok (J:=dkI) (hx:=hardDk)) (FnsR.nil)) EqsOk.nil) W0 G) (eqf_n L M ((k+0:Nat):Int) ((k+1+0:Nat):Int) k f hT hW (by omega) hq x0) rfl rfl (by omega) (fun i h0 h1=>by
     by_cases he:i=((k+0:Nat):Int)
     ·subst he;exact hq
     ·exact hJ i h0 (by omega))
   |false=>exact rnd_rD (⟨Try.prog,[F_equal (ξ:=Dk)],[],dkHo,Id'.one,60⟩:Sy Td) rfl ((fun (W0:World) (G:Nat→Prop)=>SyOk.mk2 Try.mixed dkHo_ok (FnsR.cons (F_equal_ok (J:=dkI) (hx:=hardDk)) (FnsR.nil)) EqsOk.nil) W0 G) (eqf_r L M ((k+0:Nat):Int) ((k+1+0:Nat):Int) k f hT hW (by omega) hq x0) rfl trivial
 ·revert hU
  match x with
  |.ret=>intro hU;simp only [Option.some.injEq] at hU;subst hU;exact hK
  |.normal=>intro hU;cases hU
  |.exit n=>intro hU;cases hU
set_option maxRecDepth 100000 in
theorem eqfD_w0 (L M:List (List UInt8)) (h0:(!decide ((L.length:Int)=(M.length:Int)))=true):∃ qs,wayO Id' ([⟨.us (.ext (.shr 1 L.length (tbE L))),false⟩,⟨.us (.ext (.shr 1 M.length (tbE M))),false⟩]:Mem Td).length [⟨.us (.ext (.shr 1 L.length (tbE L))),false⟩,⟨.us (.ext (.shr 1 M.length (tbE M))),false⟩] (svV (.bool false)) ((runFn (⟨Try.prog,[F_equal (ξ:=Dk)],[],dkHo,Id'.one,60⟩:Sy Td) [] Try.f126 [.one (.obj 0),.one (.obj 1),.fn 127 []] [⟨.us (.ext (.shr 1 L.length (tbE L))),false⟩,⟨.us (.ext (.shr 1 M.length (tbE M))),false⟩]).al [true])=some qs∧∀ q∈qs,q:=
 ⟨[((↑L.length:Int) != (↑M.length:Int))=true,Th.ext (Dk.shr 1 L.length (tbE L))=Th.ext (Dk.shr 1 L.length (tbE L)),Th.ext (Dk.shr 1 M.length (tbE M))=Th.ext (Dk.shr 1 M.length (tbE M)),Value.bool false=Value.bool false],by kernel_rfl,(by refine mcons ?_ (mcons ?_ (mcons ?_ (mcons ?_ mnil)))<;>first|rfl|exact h0|trivial)⟩
set_option maxRecDepth 100000 in
theorem eqfA_w0 (L M:List (List UInt8)) (h0:(!decide ((L.length:Int)=(M.length:Int)))=false):∃ qs,wayO Id' ([⟨.us (.ext (.shr 1 L.length (tbE L))),false⟩,⟨.us (.ext (.shr 1 M.length (tbE M))),false⟩]:Mem Td).length [⟨.us (.ext (.shr 1 L.length (tbE L))),false⟩,⟨.us (.ext (.shr 1 M.length (tbE M))),false⟩] (svV (.bool true)) ((runFn (⟨Try.prog,[F_equal (ξ:=Dk)],[],dkHo,Id'.one,60⟩:Sy Td) [(4,(lpG Id' 32 (hdC (loopsC (bodyOf Try.f126)) 0) 2 [(17,.c (.one (.v (.int .i64 ((0+0:Nat):Int)))))] [(0,.c (.one (.obj 0))),(1,.c (.one (.obj 1))),(2,.c (.fn 127 [])),(15,.c (.one (.obj 0))),(16,.c (.one (.v (.int .i64 (L.length:Int)))))] [⟨.us (.ext (.shr 1 L.length (tbE L))),false⟩,⟨.us (.ext (.shr 1 M.length (tbE M))),false⟩] (.leaf (.exit 0) [] [⟨.us (.ext (.shr 1 L.length (tbE L))),false⟩,⟨.us (.ext (.shr 1 M.length (tbE M))),false⟩])))] Try.f126 [.one (.obj 0),.one (.obj 1),.fn 127 []] [⟨.us (.ext (.shr 1 L.length (tbE L))),false⟩,⟨.us (.ext (.shr 1 M.length (tbE M))),false⟩]).al [false])=some qs∧∀ q∈qs,q:=
 ⟨[((↑L.length:Int) != (↑M.length:Int))=false,Value.int IntKind.i64 (↑L.length:Int)=Value.int IntKind.i64 (↑L.length:Int),Th.ext (Dk.shr 1 L.length (tbE L))=Th.ext (Dk.shr 1 L.length (tbE L)),Th.ext (Dk.shr 1 M.length (tbE M))=Th.ext (Dk.shr 1 M.length (tbE M)),Value.int IntKind.i64 (Int.ofNat 0)=Value.int IntKind.i64 (Int.ofNat ((0:Nat)+(0:Nat))),Th.ext (Dk.shr 1 L.length (tbE L))=Th.ext (Dk.shr 1 L.length (tbE L)),Th.ext (Dk.shr 1 M.length (tbE M))=Th.ext (Dk.shr 1 M.length (tbE M)),Value.bool true=Value.bool true],by kernel_rfl,(by refine mcons ?_ (mcons ?_ (mcons ?_ (mcons ?_ (mcons ?_ (mcons ?_ (mcons ?_ (mcons ?_ mnil)))))))<;>first|rfl|exact h0|trivial)⟩
set_option maxRecDepth 100000 in
theorem eqfR_w0 (L M:List (List UInt8)) (h0:(!decide ((L.length:Int)=(M.length:Int)))=false):∃ qs,wayO Id' ([⟨.us (.ext (.shr 1 L.length (tbE L))),false⟩,⟨.us (.ext (.shr 1 M.length (tbE M))),false⟩]:Mem Td).length [⟨.us (.ext (.shr 1 L.length (tbE L))),false⟩,⟨.us (.ext (.shr 1 M.length (tbE M))),false⟩] (svV (.bool false)) ((runFn (⟨Try.prog,[F_equal (ξ:=Dk)],[],dkHo,Id'.one,60⟩:Sy Td) [(4,(lpG Id' 32 (hdC (loopsC (bodyOf Try.f126)) 0) 2 [(17,.c (.one (.v (.int .i64 ((0+0:Nat):Int)))))] [(0,.c (.one (.obj 0))),(1,.c (.one (.obj 1))),(2,.c (.fn 127 [])),(15,.c (.one (.obj 0))),(16,.c (.one (.v (.int .i64 (L.length:Int)))))] [⟨.us (.ext (.shr 1 L.length (tbE L))),false⟩,⟨.us (.ext (.shr 1 M.length (tbE M))),false⟩] (.leaf .ret [(6,.c (.one (.kB false)))] [⟨.us (.ext (.shr 1 L.length (tbE L))),false⟩,⟨.us (.ext (.shr 1 M.length (tbE M))),false⟩])))] Try.f126 [.one (.obj 0),.one (.obj 1),.fn 127 []] [⟨.us (.ext (.shr 1 L.length (tbE L))),false⟩,⟨.us (.ext (.shr 1 M.length (tbE M))),false⟩]).al [false])=some qs∧∀ q∈qs,q:=
 ⟨[((↑L.length:Int) != (↑M.length:Int))=false,Value.int IntKind.i64 (↑L.length:Int)=Value.int IntKind.i64 (↑L.length:Int),Th.ext (Dk.shr 1 L.length (tbE L))=Th.ext (Dk.shr 1 L.length (tbE L)),Th.ext (Dk.shr 1 M.length (tbE M))=Th.ext (Dk.shr 1 M.length (tbE M)),Value.int IntKind.i64 (Int.ofNat 0)=Value.int IntKind.i64 (Int.ofNat ((0:Nat)+(0:Nat))),Th.ext (Dk.shr 1 L.length (tbE L))=Th.ext (Dk.shr 1 L.length (tbE L)),Th.ext (Dk.shr 1 M.length (tbE M))=Th.ext (Dk.shr 1 M.length (tbE M)),Value.bool false=Value.bool false],by kernel_rfl,(by refine mcons ?_ (mcons ?_ (mcons ?_ (mcons ?_ (mcons ?_ (mcons ?_ (mcons ?_ (mcons ?_ mnil)))))))<;>first|rfl|exact h0|trivial)⟩
theorem eqT_all (L M:List (List UInt8)):(decide (L.length=M.length)&&allI 0 L.length (eqT L M))=decide (L=M):=by
 rw [Bool.eq_iff_iff,Bool.and_eq_true,decide_eq_true_iff,decide_eq_true_iff]
 constructor
 ·rintro ⟨h,ha⟩
  rcases allI_cases 0 L.length (eqT L M) with ⟨_,g⟩|⟨g,_⟩
  ·apply List.ext_getElem h
   intro i h1 h2
   have:=of_decide_eq_true (g (i:Int) (by omega) (by omega))
   rw [Int.toNat_natCast,List.getD_eq_getElem?_getD,List.getD_eq_getElem?_getD,List.getElem?_eq_getElem h1,List.getElem?_eq_getElem h2] at this
   exact this
  ·rw [ha] at g;cases g
 ·rintro rfl
  refine ⟨rfl,?_⟩
  rcases allI_cases 0 L.length (eqT L L) with ⟨g,_⟩|⟨_,i,_,_,g⟩
  ·exact g
  ·unfold eqT at g;simp at g
def C_eqf (L M:List (List UInt8)):Ctr Td:=fun us sub=>match us,sub with
 |[.one (.obj 0),.one (.obj 1),.fn 127 []],[⟨.us (.ext (.shr sz n el)),false⟩,⟨.us (.ext (.shr sz2 n2 el2)),false⟩]=>some ([sz=1∧n=L.length∧el=tbE L,sz2=1∧n2=M.length∧el2=tbE M,L.length≤100000],svV (.bool (decide (L=M))),[⟨.us (.ext (.shr sz n el)),false⟩,⟨.us (.ext (.shr sz2 n2 el2)),false⟩])
 |_,_=>none
set_option maxRecDepth 100000 in
theorem C_eqf_ok (L M:List (List UInt8)):CtrOk Try.prog Id' 126 (C_eqf L M):=by
 intro us sub ps x sm h hp w e vs hM ha
 unfold C_eqf at h
 split at h
 ·rename_i sz n el sz2 n2 el2
  simp only [Option.some.injEq,Prod.mk.injEq] at h
  obtain ⟨rfl,rfl,rfl⟩:=h
  obtain ⟨rfl,rfl,rfl⟩:=hp _ (List.mem_cons_self ..)
  obtain ⟨rfl,rfl,rfl⟩:=hp _ (List.mem_cons_of_mem _ (List.mem_cons_self ..))
  have hL:L.length≤100000:=hp _ (List.mem_cons_of_mem _ (List.mem_cons_of_mem _ (List.mem_cons_self ..)))
  rw [← eqT_all]
  cases hq:(!decide ((L.length:Int)=(M.length:Int))) with
  |true=>
   have hv:decide (L.length=M.length)=false:=decide_eq_false (fun e=>by rw [e] at hq;simp at hq)
   rw [hv,Bool.false_and]
   exact ctr_way (I:=Id') (fun (W0:World) (G:Nat→Prop)=>SyOk.mk2 Try.mixed dkHo_ok (FnsR.cons (F_equal_ok (J:=dkI) (hx:=hardDk)) (FnsR.nil)) EqsOk.nil) rfl Try.func126 (by kernel_rfl) (fun _ _=>LpsOk.nil _) (cs:=[true]) (by kernel_rfl) (eqfD_w0 L M hq) w e vs hM ha
  |false=>
   have hd:decide ((L.length:Int)=(M.length:Int))=true:=by simpa using hq
   have hl:L.length=M.length:=by have:=of_decide_eq_true hd;omega
   rw [decide_eq_true hl,Bool.true_and]
   rcases allI_cases 0 L.length (eqT L M) with ⟨ha0,hall⟩|⟨ha0,hex⟩
   ·rw [ha0]
    exact ctr_way (I:=Id') (fun (W0:World) (G:Nat→Prop)=>SyOk.mk2 Try.mixed dkHo_ok (FnsR.cons (F_equal_ok (J:=dkI) (hx:=hardDk)) (FnsR.nil)) EqsOk.nil) rfl Try.func126 (by kernel_rfl) (fun _ _=>LpsOk.cons (by kernel_rfl) (eqf_lpA L M hL hl hall _ rfl) (LpsOk.nil _)) (cs:=[false]) (by kernel_rfl) (eqfA_w0 L M hq) w e vs hM ha
   ·rw [ha0]
    exact ctr_way (I:=Id') (fun (W0:World) (G:Nat→Prop)=>SyOk.mk2 Try.mixed dkHo_ok (FnsR.cons (F_equal_ok (J:=dkI) (hx:=hardDk)) (FnsR.nil)) EqsOk.nil) rfl Try.func126 (by kernel_rfl) (fun _ _=>LpsOk.cons (by kernel_rfl) (eqf_lpR L M hL hl hex _ rfl) (LpsOk.nil _)) (cs:=[false]) (by kernel_rfl) (eqfR_w0 L M hq) w e vs hM ha
 ·cases h
theorem R_eqf (L M:List (List UInt8)):RowOk Try.prog Id' hardD 126 (ctrF Id' (wkC (C_eqf L M)) hardD):=ctrF_ok Try.call126 (wkC_ok (C_eqf_ok L M))
end Go.Proofs.Ytdenmoiaiemokaa
