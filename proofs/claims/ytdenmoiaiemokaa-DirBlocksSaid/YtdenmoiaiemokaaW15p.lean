/- W15. -/
import Derived.Test.YtdenmoiaiemokaaW14p
set_option linter.unusedVariables false
set_option linter.unusedSimpArgs false
namespace Go.Proofs.Ytdenmoiaiemokaa
open Go.RowKit
def riseI (R:List Rw) (i:Int):Bool:=Op.bytesLess (nmR R (IntKind.i64.wrap (i - 1))).toList (nmR R i).toList
def riseD (R:List Rw) (i:Int):Bool:=!(!isI R i||decide (i>0)&&(Op.bytesLess (nmR R i).toList (nmR R (IntKind.i64.wrap (i - 1))).toList||(nmR R i).toList==(nmR R (IntKind.i64.wrap (i - 1))).toList))
def NmsOk (R:List Rw):Prop:=∀ r∈R,(r.ss.getD 0 ⟨#[]⟩).size≤100000
theorem NmsOk.at {R:List Rw} (h:NmsOk R) (j:Nat):((R.getD j Rw.zero).ss.getD 0 ⟨#[]⟩).size≤100000:=by
 cases hj:R[j]? with
 |none=>rw [show R.getD j Rw.zero=Rw.zero by rw [List.getD_eq_getElem?_getD,hj];rfl];decide
 |some r=>rw [show R.getD j Rw.zero=r by rw [List.getD_eq_getElem?_getD,hj];rfl];exact h r (List.mem_of_getElem? hj)
theorem im1 {i:Int} {n:Nat} (h:1≤i) (hi:i.toNat<n) (hn:n≤100000):0≤IntKind.i64.wrap (i - 1)∧(IntKind.i64.wrap (i - 1)).toNat<n:=by
 rw [IntWalk.i64_in _ (by omega)];omega
set_option maxRecDepth 100000 in
theorem drise_n (R:List Rw) (i i2:Int) (k:Nat) (f:Nat→Value) (h0:decide (i<(R.length:Int))=true) (h1:IntKind.i64.wrap (i+1)=i2) (h2:1≤i∧i.toNat<R.length) (h3:riseI R (i)=true) (h4:R.length≤100000):∃ qs,alN Id' 1 [(3,.c (.one (.v (.int .i64 i2))))] [⟨.us (.ext (.vw [true,false,false,false] R)),false⟩] ((symC (⟨Try.prog,[],[],dkHo,Id'.one,60⟩:Sy Td) [] 22 (hdC (loopsC (bodyOf Try.f115)) 0) ⟨[(3,.c (.one (.v (.int .i64 i))))]++anyB' (writesC (hdC (loopsC (bodyOf Try.f115)) 0)) ([(0,.c (.one (.obj 0)))]++tabV f 22),[⟨.us (.ext (.vw [true,false,false,false] R)),false⟩],0⟩).al [true,false])=some qs∧∀ q∈qs,q:=
 ⟨[decide (i<(↑R.length:Int))=true,(0:Int)≤i∧i.toNat<R.length,(0:Int)≤IntKind.i64.wrap (i - (1:Int))∧(IntKind.i64.wrap (i - (1:Int))).toNat<R.length,(!Op.bytesLess ((R.getD (IntKind.i64.wrap (i - (1:Int))).toNat Rw.zero).ss.getD (0:Nat) (ByteArray.mk #[])).toList ((R.getD i.toNat Rw.zero).ss.getD (0:Nat) (ByteArray.mk #[])).toList)=false,Th.ext (Dk.vw [true,false,false,false] R)=Th.ext (Dk.vw [true,false,false,false] R),Value.int IntKind.i64 (IntKind.i64.wrap (i+(1:Int)))=Value.int IntKind.i64 i2],by kernel_rfl,(by refine mcons ?_ (mcons ?_ (mcons ?_ (mcons ?_ (mcons ?_ (mcons ?_ mnil)))))<;>first|rfl|exact h0|exact h1|exact h2|exact h3|exact h4|trivial|(exact congrArg _ h1)|(exact h2)|(exact ⟨Int.le_trans (by decide) h2.1,h2.2⟩)|(exact im1 h2.1 h2.2 h4)|(exact (congrArg (! ·) h3:_)))⟩
set_option maxRecDepth 100000 in
theorem drise_x (R:List Rw) (i i2:Int) (k:Nat) (f:Nat→Value) (h0:decide (i<(R.length:Int))=false):∃ qs,alX Id' 1 0 [] [⟨.us (.ext (.vw [true,false,false,false] R)),false⟩] ((symC (⟨Try.prog,[],[],dkHo,Id'.one,60⟩:Sy Td) [] 22 (hdC (loopsC (bodyOf Try.f115)) 0) ⟨[(3,.c (.one (.v (.int .i64 i))))]++anyB' (writesC (hdC (loopsC (bodyOf Try.f115)) 0)) ([(0,.c (.one (.obj 0)))]++tabV f 22),[⟨.us (.ext (.vw [true,false,false,false] R)),false⟩],0⟩).al [false])=some qs∧∀ q∈qs,q:=
 ⟨[decide (i<(↑R.length:Int))=false,Th.ext (Dk.vw [true,false,false,false] R)=Th.ext (Dk.vw [true,false,false,false] R)],by kernel_rfl,(by refine mcons ?_ (mcons ?_ mnil)<;>first|rfl|exact h0|trivial|(exact congrArg _ h1)|(exact h2)|(exact ⟨Int.le_trans (by decide) h2.1,h2.2⟩)|(exact im1 h2.1 h2.2 h4)|(exact (congrArg (! ·) h3:_)))⟩
set_option maxRecDepth 100000 in
theorem drise_r (R:List Rw) (i i2:Int) (k:Nat) (f:Nat→Value) (h0:decide (i<(R.length:Int))=true) (h1:IntKind.i64.wrap (i+1)=i2) (h2:1≤i∧i.toNat<R.length) (h3:riseI R (i)=false) (h4:R.length≤100000):∃ qs,alR Id' 1 [(2,.c (.one (.kB false)))] [⟨.us (.ext (.vw [true,false,false,false] R)),false⟩] ((symC (⟨Try.prog,[],[],dkHo,Id'.one,60⟩:Sy Td) [] 22 (hdC (loopsC (bodyOf Try.f115)) 0) ⟨[(3,.c (.one (.v (.int .i64 i))))]++anyB' (writesC (hdC (loopsC (bodyOf Try.f115)) 0)) ([(0,.c (.one (.obj 0)))]++tabV f 22),[⟨.us (.ext (.vw [true,false,false,false] R)),false⟩],0⟩).al [true,true])=some qs∧∀ q∈qs,q:=
 ⟨[decide (i<(↑R.length:Int))=true,(0:Int)≤i∧i.toNat<R.length,(0:Int)≤IntKind.i64.wrap (i - (1:Int))∧(IntKind.i64.wrap (i - (1:Int))).toNat<R.length,(!Op.bytesLess ((R.getD (IntKind.i64.wrap (i - (1:Int))).toNat Rw.zero).ss.getD (0:Nat) (ByteArray.mk #[])).toList ((R.getD i.toNat Rw.zero).ss.getD (0:Nat) (ByteArray.mk #[])).toList)=true,Th.ext (Dk.vw [true,false,false,false] R)=Th.ext (Dk.vw [true,false,false,false] R),Value.bool false=Value.bool false],by kernel_rfl,(by refine mcons ?_ (mcons ?_ (mcons ?_ (mcons ?_ (mcons ?_ (mcons ?_ mnil)))))<;>first|rfl|exact h0|exact h1|exact h2|exact h3|exact h4|trivial|(exact congrArg _ h1)|(exact h2)|(exact ⟨Int.le_trans (by decide) h2.1,h2.2⟩)|(exact im1 h2.1 h2.2 h4)|(exact (congrArg (! ·) h3:_)))⟩
set_option maxRecDepth 100000 in
theorem drise_lpA (R:List Rw) (hL:R.length≤100000) (x0:R.length≤100000) (hall:∀ i:Int,1≤i→i.toNat<R.length→riseI R (i)=true) {W0:World} {G:Nat→Prop} (S0:Sy Td) (hS0:S0.P=Try.prog):LoopSound S0 Id' W0 G 22 (hdC (loopsC (bodyOf Try.f115)) 0) (lpG Id' 22 (hdC (loopsC (bodyOf Try.f115)) 0) 1 [(3,.c (.one (.v (.int .i64 ((0+1:Nat):Int)))))] [(0,.c (.one (.obj 0)))] [⟨.us (.ext (.vw [true,false,false,false] R)),false⟩] (.leaf (.exit 0) [] [⟨.us (.ext (.vw [true,false,false,false] R)),false⟩])):=by
 refine lp_sound (V:=fun k=>[(3,.c (.one (.v (.int .i64 ((k+1:Nat):Int)))))]) (M:=(fun k=>[⟨.us (.ext (.vw [true,false,false,false] R)),false⟩]:Nat→Mem Td)) (N:=R.length) (Ux:=fun k x=>match x with|.exit 0=>some ([],([⟨.us (.ext (.vw [true,false,false,false] R)),false⟩]:Mem Td))|_=>none) (X:=fun _ _=>True) (J:=fun k=>True) (fun k=>by kernel_rfl) trivial (fun k hk hJ f=>?_) (fun K hK k x U hk hU hX=>?_)
 ·rw [hS0]
  cases hT:decide (((k+1:Nat):Int)<(R.length:Int)) with
  |false=>
   exact rnd_xD (⟨Try.prog,[],[],dkHo,Id'.one,60⟩:Sy Td) rfl ((fun (W0:World) (G:Nat→Prop)=>SyOk.mk2 Try.mixed dkHo_ok (FnsR.nil) EqsOk.nil) W0 G) (drise_x R ((k+1:Nat):Int) ((k+1+1:Nat):Int) k f hT) rfl trivial
  |true=>
   have hk1:=of_decide_eq_true hT
   have hW:IntKind.i64.wrap (((k+1:Nat):Int)+1)=((k+1+1:Nat):Int):=by rw [IntWalk.i64_in _ (by omega)];omega
   exact rnd_nD (⟨Try.prog,[],[],dkHo,Id'.one,60⟩:Sy Td) rfl ((fun (W0:World) (G:Nat→Prop)=>SyOk.mk2 Try.mixed dkHo_ok (FnsR.nil) EqsOk.nil) W0 G) (drise_n R ((k+1:Nat):Int) ((k+1+1:Nat):Int) k f hT hW (by omega) (hall _ (by omega) (by omega)) x0) rfl rfl (by omega) trivial
 ·revert hU
  match x with
  |.exit 0=>intro hU;simp only [Option.some.injEq] at hU;subst hU;exact hK
  |.normal=>intro hU;cases hU
  |.ret=>intro hU;cases hU
  |.exit (n+1)=>intro hU;cases hU
set_option maxRecDepth 100000 in
theorem drise_lpR (R:List Rw) (hL:R.length≤100000) (x0:R.length≤100000) (hex:∃ i:Int,1≤i∧i.toNat<R.length∧riseI R (i)=false) {W0:World} {G:Nat→Prop} (S0:Sy Td) (hS0:S0.P=Try.prog):LoopSound S0 Id' W0 G 22 (hdC (loopsC (bodyOf Try.f115)) 0) (lpG Id' 22 (hdC (loopsC (bodyOf Try.f115)) 0) 1 [(3,.c (.one (.v (.int .i64 ((0+1:Nat):Int)))))] [(0,.c (.one (.obj 0)))] [⟨.us (.ext (.vw [true,false,false,false] R)),false⟩] (.leaf .ret [(2,.c (.one (.kB false)))] [⟨.us (.ext (.vw [true,false,false,false] R)),false⟩])):=by
 refine lp_sound (V:=fun k=>[(3,.c (.one (.v (.int .i64 ((k+1:Nat):Int)))))]) (M:=(fun k=>[⟨.us (.ext (.vw [true,false,false,false] R)),false⟩]:Nat→Mem Td)) (N:=R.length) (Ux:=fun k x=>match x with|.ret=>some ([(2,.c (.one (.kB false)))],([⟨.us (.ext (.vw [true,false,false,false] R)),false⟩]:Mem Td))|_=>none) (X:=fun _ _=>True) (J:=fun k=>∀ i:Int,1≤i→i<((k+1:Nat):Int)→riseI R (i)=true) (fun k=>by kernel_rfl) (fun i h0 h1=>by omega) (fun k hk hJ f=>?_) (fun K hK k x U hk hU hX=>?_)
 ·rw [hS0]
  cases hT:decide (((k+1:Nat):Int)<(R.length:Int)) with
  |false=>
   obtain ⟨j,j0,j1,j2⟩:=hex
   have:=of_decide_eq_false hT
   rw [hJ j j0 (by omega)] at j2
   cases j2
  |true=>
   have hk1:=of_decide_eq_true hT
   have hW:IntKind.i64.wrap (((k+1:Nat):Int)+1)=((k+1+1:Nat):Int):=by rw [IntWalk.i64_in _ (by omega)];omega
   cases hq:riseI R (((k+1:Nat):Int)) with
   |true=>exact rnd_nD (⟨Try.prog,[],[],dkHo,Id'.one,60⟩:Sy Td) rfl ((fun (W0:World) (G:Nat→Prop)=>SyOk.mk2 Try.mixed dkHo_ok (FnsR.nil) EqsOk.nil) W0 G) (drise_n R ((k+1:Nat):Int) ((k+1+1:Nat):Int) k f hT hW (by omega) hq x0) rfl rfl (by omega) (fun i h0 h1=>by
     by_cases he:i=((k+1:Nat):Int)
     ·subst he;exact hq
     ·exact hJ i h0 (by omega))
   |false=>exact rnd_rD (⟨Try.prog,[],[],dkHo,Id'.one,60⟩:Sy Td) rfl ((fun (W0:World) (G:Nat→Prop)=>SyOk.mk2 Try.mixed dkHo_ok (FnsR.nil) EqsOk.nil) W0 G) (drise_r R ((k+1:Nat):Int) ((k+1+1:Nat):Int) k f hT hW (by omega) hq x0) rfl trivial
 ·revert hU
  match x with
  |.ret=>intro hU;simp only [Option.some.injEq] at hU;subst hU;exact hK
  |.normal=>intro hU;cases hU
  |.exit n=>intro hU;cases hU
set_option maxRecDepth 100000 in
theorem rrise_n (R:List Rw) (i i2:Int) (k:Nat) (f:Nat→Value) (h0:decide (i<(R.length:Int))=true) (h1:IntKind.i64.wrap (i+1)=i2) (h2:0≤i∧i.toNat<R.length) (h3:riseD R (i)=true) (h4:R.length≤100000) (h5:NmsOk R):∃ qs,alN Id' 1 [(3,.c (.one (.v (.int .i64 i2))))] [⟨.us (.ext (.vw [true,false,false,false] R)),false⟩] ((symC (⟨Try.prog,[(155,ctrF Id' C_ris hardD)],[],dkHo,Id'.one,60⟩:Sy Td) [] 34 (hdC (loopsC (bodyOf Try.f122)) 0) ⟨[(3,.c (.one (.v (.int .i64 i))))]++anyB' (writesC (hdC (loopsC (bodyOf Try.f122)) 0)) ([(0,.c (.one (.obj 0)))]++tabV f 34),[⟨.us (.ext (.vw [true,false,false,false] R)),false⟩],0⟩).al [true,false])=some qs∧∀ q∈qs,q:=
 ⟨[decide (i<(↑R.length:Int))=true,(decide (i>(0:Int))&&(!!isE ((R.getD i.toNat Rw.zero).ss.getD (0:Nat) (ByteArray.mk #[])) ((R.getD i.toNat Rw.zero).is.getD (0:Nat) (0:Int)) ((R.getD i.toNat Rw.zero).is.getD ((0:Nat)+(1:Nat)) (0:Int)) ((R.getD i.toNat Rw.zero).is.getD ((0:Nat)+(1:Nat)+(1:Nat)) (0:Int))&&true))=true→(0:Int)≤IntKind.i64.wrap (i - (1:Int))∧(IntKind.i64.wrap (i - (1:Int))).toNat<R.length,(decide (i>(0:Int))&&(!!isE ((R.getD i.toNat Rw.zero).ss.getD (0:Nat) (ByteArray.mk #[])) ((R.getD i.toNat Rw.zero).is.getD (0:Nat) (0:Int)) ((R.getD i.toNat Rw.zero).is.getD ((0:Nat)+(1:Nat)) (0:Int)) ((R.getD i.toNat Rw.zero).is.getD ((0:Nat)+(1:Nat)+(1:Nat)) (0:Int))&&true))=true→(0:Int)≤i∧i.toNat<R.length,((R.getD i.toNat Rw.zero).ss.getD (0:Nat) (ByteArray.mk #[])).size≤(100000:Nat),(0:Int)≤i∧i.toNat<R.length,(!isE ((R.getD i.toNat Rw.zero).ss.getD (0:Nat) (ByteArray.mk #[])) ((R.getD i.toNat Rw.zero).is.getD (0:Nat) (0:Int)) ((R.getD i.toNat Rw.zero).is.getD ((0:Nat)+(1:Nat)) (0:Int)) ((R.getD i.toNat Rw.zero).is.getD ((0:Nat)+(1:Nat)+(1:Nat)) (0:Int))||decide (i>(0:Int))&&(Op.bytesLess ((R.getD i.toNat Rw.zero).ss.getD (0:Nat) (ByteArray.mk #[])).toList ((R.getD (IntKind.i64.wrap (i - (1:Int))).toNat Rw.zero).ss.getD (0:Nat) (ByteArray.mk #[])).toList||((R.getD i.toNat Rw.zero).ss.getD (0:Nat) (ByteArray.mk #[])).toList==((R.getD (IntKind.i64.wrap (i - (1:Int))).toNat Rw.zero).ss.getD (0:Nat) (ByteArray.mk #[])).toList))=false,Th.ext (Dk.vw [true,false,false,false] R)=Th.ext (Dk.vw [true,false,false,false] R),Value.int IntKind.i64 (IntKind.i64.wrap (i+(1:Int)))=Value.int IntKind.i64 i2],by kernel_rfl,(by refine mcons ?_ (mcons ?_ (mcons ?_ (mcons ?_ (mcons ?_ (mcons ?_ (mcons ?_ (mcons ?_ mnil)))))))<;>first|rfl|exact h0|exact h1|exact h2|exact h3|exact h4|exact h5|trivial|(exact congrArg _ h1)|(exact h2)|(exact fun _=>h2)|(exact fun hg=>im1 (by have:=(Bool.and_eq_true_iff.1 hg).1;have:=of_decide_eq_true this;omega) h2.2 h4)|(exact h5.at _)|(exact Bool.not_inj (h3:_=!false))|(exact Bool.not_inj (h3:_=!true)))⟩
set_option maxRecDepth 100000 in
theorem rrise_x (R:List Rw) (i i2:Int) (k:Nat) (f:Nat→Value) (h0:decide (i<(R.length:Int))=false):∃ qs,alX Id' 1 0 [] [⟨.us (.ext (.vw [true,false,false,false] R)),false⟩] ((symC (⟨Try.prog,[(155,ctrF Id' C_ris hardD)],[],dkHo,Id'.one,60⟩:Sy Td) [] 34 (hdC (loopsC (bodyOf Try.f122)) 0) ⟨[(3,.c (.one (.v (.int .i64 i))))]++anyB' (writesC (hdC (loopsC (bodyOf Try.f122)) 0)) ([(0,.c (.one (.obj 0)))]++tabV f 34),[⟨.us (.ext (.vw [true,false,false,false] R)),false⟩],0⟩).al [false])=some qs∧∀ q∈qs,q:=
 ⟨[decide (i<(↑R.length:Int))=false,Th.ext (Dk.vw [true,false,false,false] R)=Th.ext (Dk.vw [true,false,false,false] R)],by kernel_rfl,(by refine mcons ?_ (mcons ?_ mnil)<;>first|rfl|exact h0|trivial|(exact congrArg _ h1)|(exact h2)|(exact fun _=>h2)|(exact fun hg=>im1 (by have:=(Bool.and_eq_true_iff.1 hg).1;have:=of_decide_eq_true this;omega) h2.2 h4)|(exact h5.at _)|(exact Bool.not_inj (h3:_=!false))|(exact Bool.not_inj (h3:_=!true)))⟩
set_option maxRecDepth 100000 in
theorem rrise_r (R:List Rw) (i i2:Int) (k:Nat) (f:Nat→Value) (h0:decide (i<(R.length:Int))=true) (h1:IntKind.i64.wrap (i+1)=i2) (h2:0≤i∧i.toNat<R.length) (h3:riseD R (i)=false) (h4:R.length≤100000) (h5:NmsOk R):∃ qs,alR Id' 1 [(2,.c (.one (.kB false)))] [⟨.us (.ext (.vw [true,false,false,false] R)),false⟩] ((symC (⟨Try.prog,[(155,ctrF Id' C_ris hardD)],[],dkHo,Id'.one,60⟩:Sy Td) [] 34 (hdC (loopsC (bodyOf Try.f122)) 0) ⟨[(3,.c (.one (.v (.int .i64 i))))]++anyB' (writesC (hdC (loopsC (bodyOf Try.f122)) 0)) ([(0,.c (.one (.obj 0)))]++tabV f 34),[⟨.us (.ext (.vw [true,false,false,false] R)),false⟩],0⟩).al [true,true])=some qs∧∀ q∈qs,q:=
 ⟨[decide (i<(↑R.length:Int))=true,(decide (i>(0:Int))&&(!!isE ((R.getD i.toNat Rw.zero).ss.getD (0:Nat) (ByteArray.mk #[])) ((R.getD i.toNat Rw.zero).is.getD (0:Nat) (0:Int)) ((R.getD i.toNat Rw.zero).is.getD ((0:Nat)+(1:Nat)) (0:Int)) ((R.getD i.toNat Rw.zero).is.getD ((0:Nat)+(1:Nat)+(1:Nat)) (0:Int))&&true))=true→(0:Int)≤IntKind.i64.wrap (i - (1:Int))∧(IntKind.i64.wrap (i - (1:Int))).toNat<R.length,(decide (i>(0:Int))&&(!!isE ((R.getD i.toNat Rw.zero).ss.getD (0:Nat) (ByteArray.mk #[])) ((R.getD i.toNat Rw.zero).is.getD (0:Nat) (0:Int)) ((R.getD i.toNat Rw.zero).is.getD ((0:Nat)+(1:Nat)) (0:Int)) ((R.getD i.toNat Rw.zero).is.getD ((0:Nat)+(1:Nat)+(1:Nat)) (0:Int))&&true))=true→(0:Int)≤i∧i.toNat<R.length,((R.getD i.toNat Rw.zero).ss.getD (0:Nat) (ByteArray.mk #[])).size≤(100000:Nat),(0:Int)≤i∧i.toNat<R.length,(!isE ((R.getD i.toNat Rw.zero).ss.getD (0:Nat) (ByteArray.mk #[])) ((R.getD i.toNat Rw.zero).is.getD (0:Nat) (0:Int)) ((R.getD i.toNat Rw.zero).is.getD ((0:Nat)+(1:Nat)) (0:Int)) ((R.getD i.toNat Rw.zero).is.getD ((0:Nat)+(1:Nat)+(1:Nat)) (0:Int))||decide (i>(0:Int))&&(Op.bytesLess ((R.getD i.toNat Rw.zero).ss.getD (0:Nat) (ByteArray.mk #[])).toList ((R.getD (IntKind.i64.wrap (i - (1:Int))).toNat Rw.zero).ss.getD (0:Nat) (ByteArray.mk #[])).toList||((R.getD i.toNat Rw.zero).ss.getD (0:Nat) (ByteArray.mk #[])).toList==((R.getD (IntKind.i64.wrap (i - (1:Int))).toNat Rw.zero).ss.getD (0:Nat) (ByteArray.mk #[])).toList))=true,Th.ext (Dk.vw [true,false,false,false] R)=Th.ext (Dk.vw [true,false,false,false] R),Value.bool false=Value.bool false],by kernel_rfl,(by refine mcons ?_ (mcons ?_ (mcons ?_ (mcons ?_ (mcons ?_ (mcons ?_ (mcons ?_ (mcons ?_ mnil)))))))<;>first|rfl|exact h0|exact h1|exact h2|exact h3|exact h4|exact h5|trivial|(exact congrArg _ h1)|(exact h2)|(exact fun _=>h2)|(exact fun hg=>im1 (by have:=(Bool.and_eq_true_iff.1 hg).1;have:=of_decide_eq_true this;omega) h2.2 h4)|(exact h5.at _)|(exact Bool.not_inj (h3:_=!false))|(exact Bool.not_inj (h3:_=!true)))⟩
set_option maxRecDepth 100000 in
theorem rrise_lpA (R:List Rw) (hL:R.length≤100000) (x0:R.length≤100000) (x1:NmsOk R) (hall:∀ i:Int,0≤i→i.toNat<R.length→riseD R (i)=true) {W0:World} {G:Nat→Prop} (S0:Sy Td) (hS0:S0.P=Try.prog):LoopSound S0 Id' W0 G 34 (hdC (loopsC (bodyOf Try.f122)) 0) (lpG Id' 34 (hdC (loopsC (bodyOf Try.f122)) 0) 1 [(3,.c (.one (.v (.int .i64 ((0+0:Nat):Int)))))] [(0,.c (.one (.obj 0)))] [⟨.us (.ext (.vw [true,false,false,false] R)),false⟩] (.leaf (.exit 0) [] [⟨.us (.ext (.vw [true,false,false,false] R)),false⟩])):=by
 refine lp_sound (V:=fun k=>[(3,.c (.one (.v (.int .i64 ((k+0:Nat):Int)))))]) (M:=(fun k=>[⟨.us (.ext (.vw [true,false,false,false] R)),false⟩]:Nat→Mem Td)) (N:=R.length) (Ux:=fun k x=>match x with|.exit 0=>some ([],([⟨.us (.ext (.vw [true,false,false,false] R)),false⟩]:Mem Td))|_=>none) (X:=fun _ _=>True) (J:=fun k=>True) (fun k=>by kernel_rfl) trivial (fun k hk hJ f=>?_) (fun K hK k x U hk hU hX=>?_)
 ·rw [hS0]
  cases hT:decide (((k+0:Nat):Int)<(R.length:Int)) with
  |false=>
   exact rnd_xD (⟨Try.prog,[(155,ctrF Id' C_ris hardD)],[],dkHo,Id'.one,60⟩:Sy Td) rfl ((fun (W0:World) (G:Nat→Prop)=>SyOk.mk2 Try.mixed dkHo_ok (FnsR.cons (R_ris) (FnsR.nil)) EqsOk.nil) W0 G) (rrise_x R ((k+0:Nat):Int) ((k+1+0:Nat):Int) k f hT) rfl trivial
  |true=>
   have hk1:=of_decide_eq_true hT
   have hW:IntKind.i64.wrap (((k+0:Nat):Int)+1)=((k+1+0:Nat):Int):=by rw [IntWalk.i64_in _ (by omega)];omega
   exact rnd_nD (⟨Try.prog,[(155,ctrF Id' C_ris hardD)],[],dkHo,Id'.one,60⟩:Sy Td) rfl ((fun (W0:World) (G:Nat→Prop)=>SyOk.mk2 Try.mixed dkHo_ok (FnsR.cons (R_ris) (FnsR.nil)) EqsOk.nil) W0 G) (rrise_n R ((k+0:Nat):Int) ((k+1+0:Nat):Int) k f hT hW (by omega) (hall _ (by omega) (by omega)) x0 x1) rfl rfl (by omega) trivial
 ·revert hU
  match x with
  |.exit 0=>intro hU;simp only [Option.some.injEq] at hU;subst hU;exact hK
  |.normal=>intro hU;cases hU
  |.ret=>intro hU;cases hU
  |.exit (n+1)=>intro hU;cases hU
set_option maxRecDepth 100000 in
theorem rrise_lpR (R:List Rw) (hL:R.length≤100000) (x0:R.length≤100000) (x1:NmsOk R) (hex:∃ i:Int,0≤i∧i.toNat<R.length∧riseD R (i)=false) {W0:World} {G:Nat→Prop} (S0:Sy Td) (hS0:S0.P=Try.prog):LoopSound S0 Id' W0 G 34 (hdC (loopsC (bodyOf Try.f122)) 0) (lpG Id' 34 (hdC (loopsC (bodyOf Try.f122)) 0) 1 [(3,.c (.one (.v (.int .i64 ((0+0:Nat):Int)))))] [(0,.c (.one (.obj 0)))] [⟨.us (.ext (.vw [true,false,false,false] R)),false⟩] (.leaf .ret [(2,.c (.one (.kB false)))] [⟨.us (.ext (.vw [true,false,false,false] R)),false⟩])):=by
 refine lp_sound (V:=fun k=>[(3,.c (.one (.v (.int .i64 ((k+0:Nat):Int)))))]) (M:=(fun k=>[⟨.us (.ext (.vw [true,false,false,false] R)),false⟩]:Nat→Mem Td)) (N:=R.length) (Ux:=fun k x=>match x with|.ret=>some ([(2,.c (.one (.kB false)))],([⟨.us (.ext (.vw [true,false,false,false] R)),false⟩]:Mem Td))|_=>none) (X:=fun _ _=>True) (J:=fun k=>∀ i:Int,0≤i→i<((k+0:Nat):Int)→riseD R (i)=true) (fun k=>by kernel_rfl) (fun i h0 h1=>by omega) (fun k hk hJ f=>?_) (fun K hK k x U hk hU hX=>?_)
 ·rw [hS0]
  cases hT:decide (((k+0:Nat):Int)<(R.length:Int)) with
  |false=>
   obtain ⟨j,j0,j1,j2⟩:=hex
   have:=of_decide_eq_false hT
   rw [hJ j j0 (by omega)] at j2
   cases j2
  |true=>
   have hk1:=of_decide_eq_true hT
   have hW:IntKind.i64.wrap (((k+0:Nat):Int)+1)=((k+1+0:Nat):Int):=by rw [IntWalk.i64_in _ (by omega)];omega
   cases hq:riseD R (((k+0:Nat):Int)) with
   |true=>exact rnd_nD (⟨Try.prog,[(155,ctrF Id' C_ris hardD)],[],dkHo,Id'.one,60⟩:Sy Td) rfl ((fun (W0:World) (G:Nat→Prop)=>SyOk.mk2 Try.mixed dkHo_ok (FnsR.cons (R_ris) (FnsR.nil)) EqsOk.nil) W0 G) (rrise_n R ((k+0:Nat):Int) ((k+1+0:Nat):Int) k f hT hW (by omega) hq x0 x1) rfl rfl (by omega) (fun i h0 h1=>by
     by_cases he:i=((k+0:Nat):Int)
     ·subst he;exact hq
     ·exact hJ i h0 (by omega))
   |false=>exact rnd_rD (⟨Try.prog,[(155,ctrF Id' C_ris hardD)],[],dkHo,Id'.one,60⟩:Sy Td) rfl ((fun (W0:World) (G:Nat→Prop)=>SyOk.mk2 Try.mixed dkHo_ok (FnsR.cons (R_ris) (FnsR.nil)) EqsOk.nil) W0 G) (rrise_r R ((k+0:Nat):Int) ((k+1+0:Nat):Int) k f hT hW (by omega) hq x0 x1) rfl trivial
 ·revert hU
  match x with
  |.ret=>intro hU;simp only [Option.some.injEq] at hU;subst hU;exact hK
  |.normal=>intro hU;cases hU
  |.exit n=>intro hU;cases hU
set_option maxRecDepth 100000 in
theorem driseA_w0 (R:List Rw) :∃ qs,wayO Id' ([⟨.us (.ext (.vw [true,false,false,false] R)),false⟩]:Mem Td).length [⟨.us (.ext (.vw [true,false,false,false] R)),false⟩] (svV (.bool true)) ((runFn (⟨Try.prog,[],[],dkHo,Id'.one,60⟩:Sy Td) [(2,(lpG Id' 22 (hdC (loopsC (bodyOf Try.f115)) 0) 1 [(3,.c (.one (.v (.int .i64 ((0+1:Nat):Int)))))] [(0,.c (.one (.obj 0)))] [⟨.us (.ext (.vw [true,false,false,false] R)),false⟩] (.leaf (.exit 0) [] [⟨.us (.ext (.vw [true,false,false,false] R)),false⟩])))] Try.f115 [.one (.obj 0)] [⟨.us (.ext (.vw [true,false,false,false] R)),false⟩]).al [])=some qs∧∀ q∈qs,q:=
 ⟨[Th.ext (Dk.vw [true,false,false,false] R)=Th.ext (Dk.vw [true,false,false,false] R),Value.int IntKind.i64 (Int.ofNat 1)=Value.int IntKind.i64 (Int.ofNat ((0:Nat)+(1:Nat))),Th.ext (Dk.vw [true,false,false,false] R)=Th.ext (Dk.vw [true,false,false,false] R),Value.bool true=Value.bool true],by kernel_rfl,(by refine mcons ?_ (mcons ?_ (mcons ?_ (mcons ?_ mnil)))<;>first|rfl|trivial)⟩
set_option maxRecDepth 100000 in
theorem driseR_w0 (R:List Rw) :∃ qs,wayO Id' ([⟨.us (.ext (.vw [true,false,false,false] R)),false⟩]:Mem Td).length [⟨.us (.ext (.vw [true,false,false,false] R)),false⟩] (svV (.bool false)) ((runFn (⟨Try.prog,[],[],dkHo,Id'.one,60⟩:Sy Td) [(2,(lpG Id' 22 (hdC (loopsC (bodyOf Try.f115)) 0) 1 [(3,.c (.one (.v (.int .i64 ((0+1:Nat):Int)))))] [(0,.c (.one (.obj 0)))] [⟨.us (.ext (.vw [true,false,false,false] R)),false⟩] (.leaf .ret [(2,.c (.one (.kB false)))] [⟨.us (.ext (.vw [true,false,false,false] R)),false⟩])))] Try.f115 [.one (.obj 0)] [⟨.us (.ext (.vw [true,false,false,false] R)),false⟩]).al [])=some qs∧∀ q∈qs,q:=
 ⟨[Th.ext (Dk.vw [true,false,false,false] R)=Th.ext (Dk.vw [true,false,false,false] R),Value.int IntKind.i64 (Int.ofNat 1)=Value.int IntKind.i64 (Int.ofNat ((0:Nat)+(1:Nat))),Th.ext (Dk.vw [true,false,false,false] R)=Th.ext (Dk.vw [true,false,false,false] R),Value.bool false=Value.bool false],by kernel_rfl,(by refine mcons ?_ (mcons ?_ (mcons ?_ (mcons ?_ mnil)))<;>first|rfl|trivial)⟩
set_option maxRecDepth 100000 in
theorem rriseA_w0 (R:List Rw) :∃ qs,wayO Id' ([⟨.us (.ext (.vw [true,false,false,false] R)),false⟩]:Mem Td).length [⟨.us (.ext (.vw [true,false,false,false] R)),false⟩] (svV (.bool true)) ((runFn (⟨Try.prog,[(155,ctrF Id' C_ris hardD)],[],dkHo,Id'.one,60⟩:Sy Td) [(2,(lpG Id' 34 (hdC (loopsC (bodyOf Try.f122)) 0) 1 [(3,.c (.one (.v (.int .i64 ((0+0:Nat):Int)))))] [(0,.c (.one (.obj 0)))] [⟨.us (.ext (.vw [true,false,false,false] R)),false⟩] (.leaf (.exit 0) [] [⟨.us (.ext (.vw [true,false,false,false] R)),false⟩])))] Try.f122 [.one (.obj 0)] [⟨.us (.ext (.vw [true,false,false,false] R)),false⟩]).al [])=some qs∧∀ q∈qs,q:=
 ⟨[Th.ext (Dk.vw [true,false,false,false] R)=Th.ext (Dk.vw [true,false,false,false] R),Value.int IntKind.i64 (Int.ofNat 0)=Value.int IntKind.i64 (Int.ofNat ((0:Nat)+(0:Nat))),Th.ext (Dk.vw [true,false,false,false] R)=Th.ext (Dk.vw [true,false,false,false] R),Value.bool true=Value.bool true],by kernel_rfl,(by refine mcons ?_ (mcons ?_ (mcons ?_ (mcons ?_ mnil)))<;>first|rfl|trivial)⟩
set_option maxRecDepth 100000 in
theorem rriseR_w0 (R:List Rw) :∃ qs,wayO Id' ([⟨.us (.ext (.vw [true,false,false,false] R)),false⟩]:Mem Td).length [⟨.us (.ext (.vw [true,false,false,false] R)),false⟩] (svV (.bool false)) ((runFn (⟨Try.prog,[(155,ctrF Id' C_ris hardD)],[],dkHo,Id'.one,60⟩:Sy Td) [(2,(lpG Id' 34 (hdC (loopsC (bodyOf Try.f122)) 0) 1 [(3,.c (.one (.v (.int .i64 ((0+0:Nat):Int)))))] [(0,.c (.one (.obj 0)))] [⟨.us (.ext (.vw [true,false,false,false] R)),false⟩] (.leaf .ret [(2,.c (.one (.kB false)))] [⟨.us (.ext (.vw [true,false,false,false] R)),false⟩])))] Try.f122 [.one (.obj 0)] [⟨.us (.ext (.vw [true,false,false,false] R)),false⟩]).al [])=some qs∧∀ q∈qs,q:=
 ⟨[Th.ext (Dk.vw [true,false,false,false] R)=Th.ext (Dk.vw [true,false,false,false] R),Value.int IntKind.i64 (Int.ofNat 0)=Value.int IntKind.i64 (Int.ofNat ((0:Nat)+(0:Nat))),Th.ext (Dk.vw [true,false,false,false] R)=Th.ext (Dk.vw [true,false,false,false] R),Value.bool false=Value.bool false],by kernel_rfl,(by refine mcons ?_ (mcons ?_ (mcons ?_ (mcons ?_ mnil)))<;>first|rfl|trivial)⟩
set_option maxRecDepth 100000 in
theorem ctf_w0 (R:List Rw) (h0:R.length≤100000):∃ qs,wayO Id' ([⟨.us (.ext (.vw [true,false,false,false] R)),false⟩]:Mem Td).length [⟨.us (.ext (.vw [true,false,false,false] R)),false⟩] (svV (.bool (!allI 0 R.length (isI R)))) ((runFn (⟨Try.prog,[(153,ctrF Id' C_ixf hardD)],[],dkHo,Id'.one,60⟩:Sy Td) [] Try.f116 [.one (.obj 0),.fn 117 []] [⟨.us (.ext (.vw [true,false,false,false] R)),false⟩]).al [])=some qs∧∀ q∈qs,q:=
 ⟨[R.length≤(100000:Nat),Th.ext (Dk.vw [true,false,false,false] R)=Th.ext (Dk.vw [true,false,false,false] R),Value.bool (decide (fstI R.length (isI R)≥(0:Int)))=Value.bool !allI (0:Nat) R.length (isI R)],by kernel_rfl,(by refine mcons ?_ (mcons ?_ (mcons ?_ mnil))<;>first|rfl|exact h0|trivial|(exact congrArg _ (fst_all R.length (isI R))))⟩
def C_ctf:Ctr Td:=fun us sub=>match us,sub with
 |[.one (.obj 0),.fn 117 []],[⟨.us (.ext (.vw [true,false,false,false] R)),false⟩]=>some ([R.length≤100000],svV (.bool (!allI 0 R.length (isI R))),[⟨.us (.ext (.vw [true,false,false,false] R)),false⟩])
 |_,_=>none
set_option maxRecDepth 100000 in
theorem C_ctf_ok:CtrOk Try.prog Id' 116 C_ctf:=by
 intro us sub ps x sm h hp w e vs hM ha
 unfold C_ctf at h
 split at h
 ·rename_i R
  simp only [Option.some.injEq,Prod.mk.injEq] at h
  obtain ⟨rfl,rfl,rfl⟩:=h
  exact ctr_way (I:=Id') (fun (W0:World) (G:Nat→Prop)=>SyOk.mk2 Try.mixed dkHo_ok (FnsR.cons (R_ixf) (FnsR.nil)) EqsOk.nil) rfl Try.func116 (by kernel_rfl) (fun _ _=>LpsOk.nil _) (cs:=[]) (by kernel_rfl) (ctf_w0 R (hp _ (List.mem_cons_self ..))) w e vs hM ha
 ·cases h
theorem R_ctf:RowOk Try.prog Id' hardD 116 (ctrF Id' C_ctf hardD):=ctrF_ok Try.call116 C_ctf_ok
def C_drise:Ctr Td:=fun us sub=>match us,sub with
 |[.one (.obj 0)],[⟨.us (.ext (.vw [true,false,false,false] R)),false⟩]=>some ([R.length≤100000],svV (.bool (allI 1 R.length (riseI R))),[⟨.us (.ext (.vw [true,false,false,false] R)),false⟩])
 |_,_=>none
set_option maxRecDepth 100000 in
theorem C_drise_ok:CtrOk Try.prog Id' 115 C_drise:=by
 intro us sub ps x sm h hp w e vs hM ha
 unfold C_drise at h
 split at h
 ·rename_i R
  simp only [Option.some.injEq,Prod.mk.injEq] at h
  obtain ⟨rfl,rfl,rfl⟩:=h
  have hL:R.length≤100000:=hp _ (List.mem_cons_self ..)
  rcases allI_cases 1 R.length (riseI R) with ⟨hv,hall⟩|⟨hv,hex⟩
  ·rw [hv]
   exact ctr_way (I:=Id') (fun (W0:World) (G:Nat→Prop)=>SyOk.mk2 Try.mixed dkHo_ok (FnsR.nil) EqsOk.nil) rfl Try.func115 (by kernel_rfl) (fun _ _=>LpsOk.cons (by kernel_rfl) (drise_lpA R hL hL hall _ rfl) (LpsOk.nil _)) (cs:=[]) (by kernel_rfl) (driseA_w0 R ) w e vs hM ha
  ·rw [hv]
   exact ctr_way (I:=Id') (fun (W0:World) (G:Nat→Prop)=>SyOk.mk2 Try.mixed dkHo_ok (FnsR.nil) EqsOk.nil) rfl Try.func115 (by kernel_rfl) (fun _ _=>LpsOk.cons (by kernel_rfl) (drise_lpR R hL hL hex _ rfl) (LpsOk.nil _)) (cs:=[]) (by kernel_rfl) (driseR_w0 R ) w e vs hM ha
 ·cases h
theorem R_drise:RowOk Try.prog Id' hardD 115 (ctrF Id' C_drise hardD):=ctrF_ok Try.call115 C_drise_ok
def C_rrise:Ctr Td:=fun us sub=>match us,sub with
 |[.one (.obj 0)],[⟨.us (.ext (.vw [true,false,false,false] R)),false⟩]=>some ([R.length≤100000,NmsOk R],svV (.bool (allI 0 R.length (riseD R))),[⟨.us (.ext (.vw [true,false,false,false] R)),false⟩])
 |_,_=>none
set_option maxRecDepth 100000 in
theorem C_rrise_ok:CtrOk Try.prog Id' 122 C_rrise:=by
 intro us sub ps x sm h hp w e vs hM ha
 unfold C_rrise at h
 split at h
 ·rename_i R
  simp only [Option.some.injEq,Prod.mk.injEq] at h
  obtain ⟨rfl,rfl,rfl⟩:=h
  have hL:R.length≤100000:=hp _ (List.mem_cons_self ..)
  have hN:NmsOk R:=hp _ (List.mem_cons_of_mem _ (List.mem_cons_self ..))
  rcases allI_cases 0 R.length (riseD R) with ⟨hv,hall⟩|⟨hv,hex⟩
  ·rw [hv]
   exact ctr_way (I:=Id') (fun (W0:World) (G:Nat→Prop)=>SyOk.mk2 Try.mixed dkHo_ok (FnsR.cons (R_ris) (FnsR.nil)) EqsOk.nil) rfl Try.func122 (by kernel_rfl) (fun _ _=>LpsOk.cons (by kernel_rfl) (rrise_lpA R hL hL hN hall _ rfl) (LpsOk.nil _)) (cs:=[]) (by kernel_rfl) (rriseA_w0 R ) w e vs hM ha
  ·rw [hv]
   exact ctr_way (I:=Id') (fun (W0:World) (G:Nat→Prop)=>SyOk.mk2 Try.mixed dkHo_ok (FnsR.cons (R_ris) (FnsR.nil)) EqsOk.nil) rfl Try.func122 (by kernel_rfl) (fun _ _=>LpsOk.cons (by kernel_rfl) (rrise_lpR R hL hL hN hex _ rfl) (LpsOk.nil _)) (cs:=[]) (by kernel_rfl) (rriseR_w0 R ) w e vs hM ha
 ·cases h
theorem R_rrise:RowOk Try.prog Id' hardD 122 (ctrF Id' C_rrise hardD):=ctrF_ok Try.call122 C_rrise_ok
end Go.Proofs.Ytdenmoiaiemokaa
