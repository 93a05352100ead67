/- W14 W15. -/
import Derived.Test.YtdenmoiaiemokaaW13p
set_option linter.unusedVariables false
set_option linter.unusedSimpArgs false
namespace Go.Proofs.Ytdenmoiaiemokaa
open Go.RowKit
set_option maxRecDepth 100000 in
theorem ixf_n (R:List Rw) (i i2:Int) (k:Nat) (f:Nat→Value) (h0:decide (i<(R.length:Int))=true) (h1:IntKind.i64.wrap (i+1)=i2) (h2:0≤i∧i.toNat<R.length) (h3:isI R (i)=true):∃ qs,alN Id' 1 [(8,.c (.one (.v (.int .i64 i2))))] [⟨.us (.ext (.vw [true,false,false,false] R)),false⟩] ((symC (⟨Try.prog,[(117,ctrF Id' C_dbl1 hardD)],[],dkHo,Id'.one,60⟩:Sy Td) [] 19 (hdC (loopsC (bodyOf Try.f153)) 0) ⟨[(8,.c (.one (.v (.int .i64 i))))]++anyB' (writesC (hdC (loopsC (bodyOf Try.f153)) 0)) ([(0,.c (.one (.obj 0))),(1,.c (.fn 117 [])),(7,.c (.one (.v (.int .i64 (R.length:Int)))))]++tabV f 19),[⟨.us (.ext (.vw [true,false,false,false] R)),false⟩],0⟩).al [true,false])=some qs∧∀ q∈qs,q:=
 ⟨[decide (i<(↑R.length:Int))=true,(0:Int)≤i∧i.toNat<R.length,(!isE ((R.getD i.toNat Rw.zero).ss.getD (0:Nat) (ByteArray.mk #[])) ((R.getD i.toNat Rw.zero).is.getD (0:Nat) (0:Int)) ((R.getD i.toNat Rw.zero).is.getD ((0:Nat)+(1:Nat)) (0:Int)) ((R.getD i.toNat Rw.zero).is.getD ((0:Nat)+(1:Nat)+(1:Nat)) (0:Int)))=false,Th.ext (Dk.vw [true,false,false,false] R)=Th.ext (Dk.vw [true,false,false,false] R),Value.int IntKind.i64 (IntKind.i64.wrap (i+(1:Int)))=Value.int IntKind.i64 i2],by kernel_rfl,(by refine mcons ?_ (mcons ?_ (mcons ?_ (mcons ?_ (mcons ?_ mnil))))<;>first|rfl|exact h0|exact h1|exact h2|exact h3|trivial|(exact congrArg _ h1)|(exact h2)|(exact (congrArg (! ·) h3:_)))⟩
set_option maxRecDepth 100000 in
theorem ixf_x (R:List Rw) (i i2:Int) (k:Nat) (f:Nat→Value) (h0:decide (i<(R.length:Int))=false):∃ qs,alX Id' 1 0 [] [⟨.us (.ext (.vw [true,false,false,false] R)),false⟩] ((symC (⟨Try.prog,[(117,ctrF Id' C_dbl1 hardD)],[],dkHo,Id'.one,60⟩:Sy Td) [] 19 (hdC (loopsC (bodyOf Try.f153)) 0) ⟨[(8,.c (.one (.v (.int .i64 i))))]++anyB' (writesC (hdC (loopsC (bodyOf Try.f153)) 0)) ([(0,.c (.one (.obj 0))),(1,.c (.fn 117 [])),(7,.c (.one (.v (.int .i64 (R.length:Int)))))]++tabV f 19),[⟨.us (.ext (.vw [true,false,false,false] R)),false⟩],0⟩).al [false])=some qs∧∀ q∈qs,q:=
 ⟨[decide (i<(↑R.length:Int))=false,Th.ext (Dk.vw [true,false,false,false] R)=Th.ext (Dk.vw [true,false,false,false] R)],by kernel_rfl,(by refine mcons ?_ (mcons ?_ mnil)<;>first|rfl|exact h0|trivial|(exact congrArg _ h1)|(exact h2)|(exact (congrArg (! ·) h3:_)))⟩
set_option maxRecDepth 100000 in
theorem ixf_lpA (R:List Rw) (hL:R.length≤100000)  (hall:∀ i:Int,0≤i→i.toNat<R.length→isI R (i)=true) {W0:World} {G:Nat→Prop} (S0:Sy Td) (hS0:S0.P=Try.prog):LoopSound S0 Id' W0 G 19 (hdC (loopsC (bodyOf Try.f153)) 0) (lpG Id' 19 (hdC (loopsC (bodyOf Try.f153)) 0) 1 [(8,.c (.one (.v (.int .i64 ((0+0:Nat):Int)))))] [(0,.c (.one (.obj 0))),(1,.c (.fn 117 [])),(7,.c (.one (.v (.int .i64 (R.length:Int)))))] [⟨.us (.ext (.vw [true,false,false,false] R)),false⟩] (.leaf (.exit 0) [] [⟨.us (.ext (.vw [true,false,false,false] R)),false⟩])):=by
 refine lp_sound (V:=fun k=>[(8,.c (.one (.v (.int .i64 ((k+0:Nat):Int)))))]) (M:=(fun k=>[⟨.us (.ext (.vw [true,false,false,false] R)),false⟩]:Nat→Mem Td)) (N:=R.length) (Ux:=fun k x=>match x with|.exit 0=>some ([],([⟨.us (.ext (.vw [true,false,false,false] R)),false⟩]:Mem Td))|_=>none) (X:=fun _ _=>True) (J:=fun k=>True) (fun k=>by kernel_rfl) trivial (fun k hk hJ f=>?_) (fun K hK k x U hk hU hX=>?_)
 ·rw [hS0]
  cases hT:decide (((k+0:Nat):Int)<(R.length:Int)) with
  |false=>
   exact rnd_xD (⟨Try.prog,[(117,ctrF Id' C_dbl1 hardD)],[],dkHo,Id'.one,60⟩:Sy Td) rfl ((fun (W0:World) (G:Nat→Prop)=>SyOk.mk2 Try.mixed dkHo_ok (FnsR.cons (R_dbl1) (FnsR.nil)) EqsOk.nil) W0 G) (ixf_x R ((k+0:Nat):Int) ((k+1+0:Nat):Int) k f hT) rfl trivial
  |true=>
   have hk1:=of_decide_eq_true hT
   have hW:IntKind.i64.wrap (((k+0:Nat):Int)+1)=((k+1+0:Nat):Int):=by rw [IntWalk.i64_in _ (by omega)];omega
   exact rnd_nD (⟨Try.prog,[(117,ctrF Id' C_dbl1 hardD)],[],dkHo,Id'.one,60⟩:Sy Td) rfl ((fun (W0:World) (G:Nat→Prop)=>SyOk.mk2 Try.mixed dkHo_ok (FnsR.cons (R_dbl1) (FnsR.nil)) EqsOk.nil) W0 G) (ixf_n R ((k+0:Nat):Int) ((k+1+0:Nat):Int) k f hT hW (by omega) (hall _ (by omega) (by omega)) ) rfl rfl (by omega) trivial
 ·revert hU
  match x with
  |.exit 0=>intro hU;simp only [Option.some.injEq] at hU;subst hU;exact hK
  |.normal=>intro hU;cases hU
  |.ret=>intro hU;cases hU
  |.exit (n+1)=>intro hU;cases hU
set_option maxRecDepth 100000 in
theorem ixf_r (R:List Rw) (i i2:Int) (k:Nat) (f:Nat→Value) (h0:decide (i<(R.length:Int))=true) (h1:i=i2) (h2:0≤i∧i.toNat<R.length) (h3:isI R (i)=false):∃ qs,alR Id' 1 [(4,.c (.one (.v (.int .i64 i2))))] [⟨.us (.ext (.vw [true,false,false,false] R)),false⟩] ((symC (⟨Try.prog,[(117,ctrF Id' C_dbl1 hardD)],[],dkHo,Id'.one,60⟩:Sy Td) [] 19 (hdC (loopsC (bodyOf Try.f153)) 0) ⟨[(8,.c (.one (.v (.int .i64 i))))]++anyB' (writesC (hdC (loopsC (bodyOf Try.f153)) 0)) ([(0,.c (.one (.obj 0))),(1,.c (.fn 117 [])),(7,.c (.one (.v (.int .i64 (R.length:Int)))))]++tabV f 19),[⟨.us (.ext (.vw [true,false,false,false] R)),false⟩],0⟩).al [true,true])=some qs∧∀ q∈qs,q:=
 ⟨[decide (i<(↑R.length:Int))=true,(0:Int)≤i∧i.toNat<R.length,(!isE ((R.getD i.toNat Rw.zero).ss.getD (0:Nat) (ByteArray.mk #[])) ((R.getD i.toNat Rw.zero).is.getD (0:Nat) (0:Int)) ((R.getD i.toNat Rw.zero).is.getD ((0:Nat)+(1:Nat)) (0:Int)) ((R.getD i.toNat Rw.zero).is.getD ((0:Nat)+(1:Nat)+(1:Nat)) (0:Int)))=true,Th.ext (Dk.vw [true,false,false,false] R)=Th.ext (Dk.vw [true,false,false,false] R),Value.int IntKind.i64 i=Value.int IntKind.i64 i2],by kernel_rfl,(by refine mcons ?_ (mcons ?_ (mcons ?_ (mcons ?_ (mcons ?_ mnil))))<;>first|rfl|exact h0|exact h1|exact h2|exact h3|trivial|(exact congrArg _ h1)|(exact h2)|(exact (congrArg (! ·) h3:_)))⟩
set_option maxRecDepth 100000 in
theorem ixf_lpR (R:List Rw) (e:Int) (hL:R.length≤100000)  (he0:0≤e∧e.toNat<R.length) (he1:isI R (e)=false) (he2:∀ i:Int,0≤i→i<e→isI R (i)=true) {W0:World} {G:Nat→Prop} (S0:Sy Td) (hS0:S0.P=Try.prog):LoopSound S0 Id' W0 G 19 (hdC (loopsC (bodyOf Try.f153)) 0) (lpG Id' 19 (hdC (loopsC (bodyOf Try.f153)) 0) 1 [(8,.c (.one (.v (.int .i64 ((0+0:Nat):Int)))))] [(0,.c (.one (.obj 0))),(1,.c (.fn 117 [])),(7,.c (.one (.v (.int .i64 (R.length:Int)))))] [⟨.us (.ext (.vw [true,false,false,false] R)),false⟩] (.leaf .ret [(4,.c (.one (.v (.int .i64 e))))] [⟨.us (.ext (.vw [true,false,false,false] R)),false⟩])):=by
 refine lp_sound (V:=fun k=>[(8,.c (.one (.v (.int .i64 ((k+0:Nat):Int)))))]) (M:=(fun k=>[⟨.us (.ext (.vw [true,false,false,false] R)),false⟩]:Nat→Mem Td)) (N:=R.length) (Ux:=fun k x=>match x with|.ret=>some ([(4,.c (.one (.v (.int .i64 e))))],([⟨.us (.ext (.vw [true,false,false,false] R)),false⟩]:Mem Td))|_=>none) (X:=fun _ _=>True) (J:=fun k=>((k+0:Nat):Int)≤e) (fun k=>by kernel_rfl) (by omega) (fun k hk hJ f=>?_) (fun K hK k x U hk hU hX=>?_)
 ·rw [hS0]
  cases hT:decide (((k+0:Nat):Int)<(R.length:Int)) with
  |false=>
   have:=of_decide_eq_false hT
   omega
  |true=>
   have hk1:=of_decide_eq_true hT
   have hW:IntKind.i64.wrap (((k+0:Nat):Int)+1)=((k+1+0:Nat):Int):=by rw [IntWalk.i64_in _ (by omega)];omega
   cases hq:isI R (((k+0:Nat):Int)) with
   |true=>
    exact rnd_nD (⟨Try.prog,[(117,ctrF Id' C_dbl1 hardD)],[],dkHo,Id'.one,60⟩:Sy Td) rfl ((fun (W0:World) (G:Nat→Prop)=>SyOk.mk2 Try.mixed dkHo_ok (FnsR.cons (R_dbl1) (FnsR.nil)) EqsOk.nil) W0 G) (ixf_n R ((k+0:Nat):Int) ((k+1+0:Nat):Int) k f hT hW (by omega) hq ) rfl rfl (by omega) (by
     rcases Int.lt_or_eq_of_le hJ with h|h
     ·omega
     ·rw [h,he1] at hq;cases hq)
   |false=>
    have hie:((k+0:Nat):Int)=e:=by
     rcases Int.lt_or_eq_of_le hJ with h|h
     ·rw [he2 _ (by omega) h] at hq;cases hq
     ·exact h
    exact rnd_rD (⟨Try.prog,[(117,ctrF Id' C_dbl1 hardD)],[],dkHo,Id'.one,60⟩:Sy Td) rfl ((fun (W0:World) (G:Nat→Prop)=>SyOk.mk2 Try.mixed dkHo_ok (FnsR.cons (R_dbl1) (FnsR.nil)) EqsOk.nil) W0 G) (ixf_r R ((k+0:Nat):Int) e k f hT hie (by omega) hq ) rfl trivial
 ·revert hU
  match x with
  |.ret=>intro hU;simp only [Option.some.injEq] at hU;subst hU;exact hK
  |.normal=>intro hU;cases hU
  |.exit n=>intro hU;cases hU
set_option maxRecDepth 100000 in
theorem ixfA_w0 (R:List Rw) :∃ qs,wayO Id' ([⟨.us (.ext (.vw [true,false,false,false] R)),false⟩]:Mem Td).length [⟨.us (.ext (.vw [true,false,false,false] R)),false⟩] (.c (.one (.v (.int .i64 (-1))))) ((runFn (⟨Try.prog,[(117,ctrF Id' C_dbl1 hardD)],[],dkHo,Id'.one,60⟩:Sy Td) [(2,(lpG Id' 19 (hdC (loopsC (bodyOf Try.f153)) 0) 1 [(8,.c (.one (.v (.int .i64 ((0+0:Nat):Int)))))] [(0,.c (.one (.obj 0))),(1,.c (.fn 117 [])),(7,.c (.one (.v (.int .i64 (R.length:Int)))))] [⟨.us (.ext (.vw [true,false,false,false] R)),false⟩] (.leaf (.exit 0) [] [⟨.us (.ext (.vw [true,false,false,false] R)),false⟩])))] Try.f153 [.one (.obj 0),.fn 117 []] [⟨.us (.ext (.vw [true,false,false,false] R)),false⟩]).al [])=some qs∧∀ q∈qs,q:=
 ⟨[Value.int IntKind.i64 (↑R.length:Int)=Value.int IntKind.i64 (↑R.length:Int),Th.ext (Dk.vw [true,false,false,false] R)=Th.ext (Dk.vw [true,false,false,false] R),Value.int IntKind.i64 (Int.ofNat 0)=Value.int IntKind.i64 (Int.ofNat ((0:Nat)+(0:Nat))),Th.ext (Dk.vw [true,false,false,false] R)=Th.ext (Dk.vw [true,false,false,false] R),Value.int IntKind.i64 (Int.negSucc 0)=Value.int IntKind.i64 (Int.negSucc 0)],by kernel_rfl,(by refine mcons ?_ (mcons ?_ (mcons ?_ (mcons ?_ (mcons ?_ mnil))))<;>first|rfl|trivial)⟩
set_option maxRecDepth 100000 in
theorem ixfR_w0 (R:List Rw) (e:Int) :∃ qs,wayO Id' ([⟨.us (.ext (.vw [true,false,false,false] R)),false⟩]:Mem Td).length [⟨.us (.ext (.vw [true,false,false,false] R)),false⟩] (.c (.one (.v (.int .i64 e)))) ((runFn (⟨Try.prog,[(117,ctrF Id' C_dbl1 hardD)],[],dkHo,Id'.one,60⟩:Sy Td) [(2,(lpG Id' 19 (hdC (loopsC (bodyOf Try.f153)) 0) 1 [(8,.c (.one (.v (.int .i64 ((0+0:Nat):Int)))))] [(0,.c (.one (.obj 0))),(1,.c (.fn 117 [])),(7,.c (.one (.v (.int .i64 (R.length:Int)))))] [⟨.us (.ext (.vw [true,false,false,false] R)),false⟩] (.leaf .ret [(4,.c (.one (.v (.int .i64 e))))] [⟨.us (.ext (.vw [true,false,false,false] R)),false⟩])))] Try.f153 [.one (.obj 0),.fn 117 []] [⟨.us (.ext (.vw [true,false,false,false] R)),false⟩]).al [])=some qs∧∀ q∈qs,q:=
 ⟨[Value.int IntKind.i64 (↑R.length:Int)=Value.int IntKind.i64 (↑R.length:Int),Th.ext (Dk.vw [true,false,false,false] R)=Th.ext (Dk.vw [true,false,false,false] R),Value.int IntKind.i64 (Int.ofNat 0)=Value.int IntKind.i64 (Int.ofNat ((0:Nat)+(0:Nat))),Th.ext (Dk.vw [true,false,false,false] R)=Th.ext (Dk.vw [true,false,false,false] R),Value.int IntKind.i64 e=Value.int IntKind.i64 e],by kernel_rfl,(by refine mcons ?_ (mcons ?_ (mcons ?_ (mcons ?_ (mcons ?_ mnil))))<;>first|rfl|trivial)⟩
def fstI (n:Nat) (p:Int→Bool):Int:=match (List.range n).find? (fun j:Nat=>!p (j:Int)) with|some j=>(j:Int)|none=>-1
theorem fst_cases (n:Nat) (p:Int→Bool):(fstI n p=-1∧∀ i:Int,((0:Nat):Int)≤i→i.toNat<n→p i=true)∨(((0:Nat):Int)≤fstI n p∧(fstI n p).toNat<n∧p (fstI n p)=false∧∀ i:Int,((0:Nat):Int)≤i→i<fstI n p→p i=true):=by
 unfold fstI
 cases h:(List.range n).find? (fun j:Nat=>!p (j:Int)) with
 |none=>
  refine .inl ⟨rfl,fun i h0 h1=>?_⟩
  have:=List.find?_eq_none.1 h i.toNat (List.mem_range.2 h1)
  rw [Int.toNat_of_nonneg (by omega)] at this
  simpa using this
 |some j=>
  obtain ⟨h1,h2,h3⟩:=List.find?_range_eq_some.1 h
  have h4:=List.mem_range.1 h2
  refine .inr ⟨by simp,by simpa using h4,by simpa using h1,fun i h0 hi=>?_⟩
  have hi:i<(j:Int):=hi
  have:=h3 i.toNat (by omega)
  rw [Int.toNat_of_nonneg (by omega)] at this
  simpa using this
theorem fst_all (n:Nat) (p:Int→Bool):decide (fstI n p≥0)=!allI 0 n p:=by
 rcases fst_cases n p with ⟨h1,h2⟩|⟨h1,h2,h3,_⟩
 ·rcases allI_cases 0 n p with ⟨g,_⟩|⟨g,i,g1,g2,g3⟩
  ·rw [h1,g];rfl
  ·rw [h2 i g1 g2] at g3;cases g3
 ·rcases allI_cases 0 n p with ⟨g,g1⟩|⟨g,_⟩
  ·rw [g1 _ h1 h2] at h3;cases h3
  ·rw [g];simpa using h1
def C_ixf:Ctr Td:=fun us sub=>match us,sub with
 |[.one (.obj 0),.fn 117 []],[⟨.us (.ext (.vw [true,false,false,false] R)),false⟩]=>some ([R.length≤100000],.c (.one (.v (.int .i64 (fstI R.length (isI R))))),[⟨.us (.ext (.vw [true,false,false,false] R)),false⟩])
 |_,_=>none
set_option maxRecDepth 100000 in
theorem C_ixf_ok:CtrOk Try.prog Id' 153 C_ixf:=by
 intro us sub ps x sm h hp w e vs hM ha
 unfold C_ixf at h
 split at h
 ·rename_i R
  simp only [Option.some.injEq,Prod.mk.injEq] at h
  obtain ⟨rfl,rfl,rfl⟩:=h
  have hL:R.length≤100000:=hp _ (List.mem_cons_self ..)
  rcases fst_cases R.length (isI R) with ⟨hv,hall⟩|⟨h1,h2,h3,h4⟩
  ·rw [hv]
   exact ctr_way (I:=Id') (fun (W0:World) (G:Nat→Prop)=>SyOk.mk2 Try.mixed dkHo_ok (FnsR.cons (R_dbl1) (FnsR.nil)) EqsOk.nil) rfl Try.func153 (by kernel_rfl) (fun _ _=>LpsOk.cons (by kernel_rfl) (ixf_lpA R hL hall _ rfl) (LpsOk.nil _)) (cs:=[]) (by kernel_rfl) (ixfA_w0 R ) w e vs hM ha
  ·exact ctr_way (I:=Id') (fun (W0:World) (G:Nat→Prop)=>SyOk.mk2 Try.mixed dkHo_ok (FnsR.cons (R_dbl1) (FnsR.nil)) EqsOk.nil) rfl Try.func153 (by kernel_rfl) (fun _ _=>LpsOk.cons (by kernel_rfl) (ixf_lpR R _ hL ⟨h1,h2⟩ h3 h4 _ rfl) (LpsOk.nil _)) (cs:=[]) (by kernel_rfl) (ixfR_w0 R _ ) w e vs hM ha
 ·cases h
theorem R_ixf:RowOk Try.prog Id' hardD 153 (ctrF Id' C_ixf hardD):=ctrF_ok Try.call153 C_ixf_ok
end Go.Proofs.Ytdenmoiaiemokaa
set_option linter.unusedVariables false
set_option linter.unusedSimpArgs false
namespace Go.Proofs.Ytdenmoiaiemokaa
open Go.RowKit
def riseI (R:List Rw) (i:Int):Bool:=Op.bytesLess (nmR R (IntKind.i64.wrap (i - 1))).toList (nmR R i).toList
def riseD (R:List Rw) (i:Int):Bool:=!(!isI R i||decide (i>0)&&(Op.bytesLess (nmR R i).toList (nmR R (IntKind.i64.wrap (i - 1))).toList||(nmR R i).toList==(nmR R (IntKind.i64.wrap (i - 1))).toList))
theorem im1 {i:Int} {n:Nat} (h:1≤i) (hi:i.toNat<n) (hn:n≤100000):0≤IntKind.i64.wrap (i - 1)∧(IntKind.i64.wrap (i - 1)).toNat<n:=by
 rw [IntWalk.i64_in _ (by omega)];omega
set_option maxRecDepth 100000 in
theorem drise_n (R:List Rw) (i i2:Int) (k:Nat) (f:Nat→Value) (h0:decide (i<(R.length:Int))=true) (h1:IntKind.i64.wrap (i+1)=i2) (h2:1≤i∧i.toNat<R.length) (h3:riseI R (i)=true) (h4:R.length≤100000):∃ qs,alN Id' 1 [(3,.c (.one (.v (.int .i64 i2))))] [⟨.us (.ext (.vw [true,false,false,false] R)),false⟩] ((symC (⟨Try.prog,[],[],dkHo,Id'.one,60⟩:Sy Td) [] 22 (hdC (loopsC (bodyOf Try.f115)) 0) ⟨[(3,.c (.one (.v (.int .i64 i))))]++anyB' (writesC (hdC (loopsC (bodyOf Try.f115)) 0)) ([(0,.c (.one (.obj 0)))]++tabV f 22),[⟨.us (.ext (.vw [true,false,false,false] R)),false⟩],0⟩).al [true,false])=some qs∧∀ q∈qs,q:=
 ⟨[decide (i<(↑R.length:Int))=true,(0:Int)≤i∧i.toNat<R.length,(0:Int)≤IntKind.i64.wrap (i - (1:Int))∧(IntKind.i64.wrap (i - (1:Int))).toNat<R.length,(!Op.bytesLess ((R.getD (IntKind.i64.wrap (i - (1:Int))).toNat Rw.zero).ss.getD (0:Nat) (ByteArray.mk #[])).toList ((R.getD i.toNat Rw.zero).ss.getD (0:Nat) (ByteArray.mk #[])).toList)=false,Th.ext (Dk.vw [true,false,false,false] R)=Th.ext (Dk.vw [true,false,false,false] R),Value.int IntKind.i64 (IntKind.i64.wrap (i+(1:Int)))=Value.int IntKind.i64 i2],by kernel_rfl,(by refine mcons ?_ (mcons ?_ (mcons ?_ (mcons ?_ (mcons ?_ (mcons ?_ mnil)))))<;>first|rfl|exact h0|exact h1|exact h2|exact h3|exact h4|trivial|(exact congrArg _ h1)|(exact h2)|(exact ⟨Int.le_trans (by decide) h2.1,h2.2⟩)|(exact im1 h2.1 h2.2 h4)|(exact (congrArg (! ·) h3:_)))⟩
set_option maxRecDepth 100000 in
theorem drise_x (R:List Rw) (i i2:Int) (k:Nat) (f:Nat→Value) (h0:decide (i<(R.length:Int))=false):∃ qs,alX Id' 1 0 [] [⟨.us (.ext (.vw [true,false,false,false] R)),false⟩] ((symC (⟨Try.prog,[],[],dkHo,Id'.one,60⟩:Sy Td) [] 22 (hdC (loopsC (bodyOf Try.f115)) 0) ⟨[(3,.c (.one (.v (.int .i64 i))))]++anyB' (writesC (hdC (loopsC (bodyOf Try.f115)) 0)) ([(0,.c (.one (.obj 0)))]++tabV f 22),[⟨.us (.ext (.vw [true,false,false,false] R)),false⟩],0⟩).al [false])=some qs∧∀ q∈qs,q:=
 ⟨[decide (i<(↑R.length:Int))=false,Th.ext (Dk.vw [true,false,false,false] R)=Th.ext (Dk.vw [true,false,false,false] R)],by kernel_rfl,(by refine mcons ?_ (mcons ?_ mnil)<;>first|rfl|exact h0|trivial|(exact congrArg _ h1)|(exact h2)|(exact ⟨Int.le_trans (by decide) h2.1,h2.2⟩)|(exact im1 h2.1 h2.2 h4)|(exact (congrArg (! ·) h3:_)))⟩
set_option maxRecDepth 100000 in
theorem drise_r (R:List Rw) (i i2:Int) (k:Nat) (f:Nat→Value) (h0:decide (i<(R.length:Int))=true) (h1:IntKind.i64.wrap (i+1)=i2) (h2:1≤i∧i.toNat<R.length) (h3:riseI R (i)=false) (h4:R.length≤100000):∃ qs,alR Id' 1 [(2,.c (.one (.kB false)))] [⟨.us (.ext (.vw [true,false,false,false] R)),false⟩] ((symC (⟨Try.prog,[],[],dkHo,Id'.one,60⟩:Sy Td) [] 22 (hdC (loopsC (bodyOf Try.f115)) 0) ⟨[(3,.c (.one (.v (.int .i64 i))))]++anyB' (writesC (hdC (loopsC (bodyOf Try.f115)) 0)) ([(0,.c (.one (.obj 0)))]++tabV f 22),[⟨.us (.ext (.vw [true,false,false,false] R)),false⟩],0⟩).al [true,true])=some qs∧∀ q∈qs,q:=
 ⟨[decide (i<(↑R.length:Int))=true,(0:Int)≤i∧i.toNat<R.length,(0:Int)≤IntKind.i64.wrap (i - (1:Int))∧(IntKind.i64.wrap (i - (1:Int))).toNat<R.length,(!Op.bytesLess ((R.getD (IntKind.i64.wrap (i - (1:Int))).toNat Rw.zero).ss.getD (0:Nat) (ByteArray.mk #[])).toList ((R.getD i.toNat Rw.zero).ss.getD (0:Nat) (ByteArray.mk #[])).toList)=true,Th.ext (Dk.vw [true,false,false,false] R)=Th.ext (Dk.vw [true,false,false,false] R),Value.bool false=Value.bool false],by kernel_rfl,(by refine mcons ?_ (mcons ?_ (mcons ?_ (mcons ?_ (mcons ?_ (mcons ?_ mnil)))))<;>first|rfl|exact h0|exact h1|exact h2|exact h3|exact h4|trivial|(exact congrArg _ h1)|(exact h2)|(exact ⟨Int.le_trans (by decide) h2.1,h2.2⟩)|(exact im1 h2.1 h2.2 h4)|(exact (congrArg (! ·) h3:_)))⟩
set_option maxRecDepth 100000 in
theorem drise_lpA (R:List Rw) (hL:R.length≤100000) (x0:R.length≤100000) (hall:∀ i:Int,1≤i→i.toNat<R.length→riseI R (i)=true) {W0:World} {G:Nat→Prop} (S0:Sy Td) (hS0:S0.P=Try.prog):LoopSound S0 Id' W0 G 22 (hdC (loopsC (bodyOf Try.f115)) 0) (lpG Id' 22 (hdC (loopsC (bodyOf Try.f115)) 0) 1 [(3,.c (.one (.v (.int .i64 ((0+1:Nat):Int)))))] [(0,.c (.one (.obj 0)))] [⟨.us (.ext (.vw [true,false,false,false] R)),false⟩] (.leaf (.exit 0) [] [⟨.us (.ext (.vw [true,false,false,false] R)),false⟩])):=by
 refine lp_sound (V:=fun k=>[(3,.c (.one (.v (.int .i64 ((k+1:Nat):Int)))))]) (M:=(fun k=>[⟨.us (.ext (.vw [true,false,false,false] R)),false⟩]:Nat→Mem Td)) (N:=R.length) (Ux:=fun k x=>match x with|.exit 0=>some ([],([⟨.us (.ext (.vw [true,false,false,false] R)),false⟩]:Mem Td))|_=>none) (X:=fun _ _=>True) (J:=fun k=>True) (fun k=>by kernel_rfl) trivial (fun k hk hJ f=>?_) (fun K hK k x U hk hU hX=>?_)
 ·rw [hS0]
  cases hT:decide (((k+1:Nat):Int)<(R.length:Int)) with
  |false=>
   exact rnd_xD (⟨Try.prog,[],[],dkHo,Id'.one,60⟩:Sy Td) rfl ((fun (W0:World) (G:Nat→Prop)=>SyOk.mk2 Try.mixed dkHo_ok (FnsR.nil) EqsOk.nil) W0 G) (drise_x R ((k+1:Nat):Int) ((k+1+1:Nat):Int) k f hT) rfl trivial
  |true=>
   have hk1:=of_decide_eq_true hT
   have hW:IntKind.i64.wrap (((k+1:Nat):Int)+1)=((k+1+1:Nat):Int):=by rw [IntWalk.i64_in _ (by omega)];omega
   exact rnd_nD (⟨Try.prog,[],[],dkHo,Id'.one,60⟩:Sy Td) rfl ((fun (W0:World) (G:Nat→Prop)=>SyOk.mk2 Try.mixed dkHo_ok (FnsR.nil) EqsOk.nil) W0 G) (drise_n R ((k+1:Nat):Int) ((k+1+1:Nat):Int) k f hT hW (by omega) (hall _ (by omega) (by omega)) x0) rfl rfl (by omega) trivial
 ·revert hU
  match x with
  |.exit 0=>intro hU;simp only [Option.some.injEq] at hU;subst hU;exact hK
  |.normal=>intro hU;cases hU
  |.ret=>intro hU;cases hU
  |.exit (n+1)=>intro hU;cases hU
set_option maxRecDepth 100000 in
theorem drise_lpR (R:List Rw) (hL:R.length≤100000) (x0:R.length≤100000) (hex:∃ i:Int,1≤i∧i.toNat<R.length∧riseI R (i)=false) {W0:World} {G:Nat→Prop} (S0:Sy Td) (hS0:S0.P=Try.prog):LoopSound S0 Id' W0 G 22 (hdC (loopsC (bodyOf Try.f115)) 0) (lpG Id' 22 (hdC (loopsC (bodyOf Try.f115)) 0) 1 [(3,.c (.one (.v (.int .i64 ((0+1:Nat):Int)))))] [(0,.c (.one (.obj 0)))] [⟨.us (.ext (.vw [true,false,false,false] R)),false⟩] (.leaf .ret [(2,.c (.one (.kB false)))] [⟨.us (.ext (.vw [true,false,false,false] R)),false⟩])):=by
 refine lp_sound (V:=fun k=>[(3,.c (.one (.v (.int .i64 ((k+1:Nat):Int)))))]) (M:=(fun k=>[⟨.us (.ext (.vw [true,false,false,false] R)),false⟩]:Nat→Mem Td)) (N:=R.length) (Ux:=fun k x=>match x with|.ret=>some ([(2,.c (.one (.kB false)))],([⟨.us (.ext (.vw [true,false,false,false] R)),false⟩]:Mem Td))|_=>none) (X:=fun _ _=>True) (J:=fun k=>∀ i:Int,1≤i→i<((k+1:Nat):Int)→riseI R (i)=true) (fun k=>by kernel_rfl) (fun i h0 h1=>by omega) (fun k hk hJ f=>?_) (fun K hK k x U hk hU hX=>?_)
 ·rw [hS0]
  cases hT:decide (((k+1:Nat):Int)<(R.length:Int)) with
  |false=>
   obtain ⟨j,j0,j1,j2⟩:=hex
   have:=of_decide_eq_false hT
   rw [hJ j j0 (by omega)] at j2
   cases j2
  |true=>
   have hk1:=of_decide_eq_true hT
   have hW:IntKind.i64.wrap (((k+1:Nat):Int)+1)=((k+1+1:Nat):Int):=by rw [IntWalk.i64_in _ (by omega)];omega
   cases hq:riseI R (((k+1:Nat):Int)) with
   |true=>exact rnd_nD (⟨Try.prog,[],[],dkHo,Id'.one,60⟩:Sy Td) rfl ((fun (W0:World) (G:Nat→Prop)=>SyOk.mk2 Try.mixed dkHo_ok (FnsR.nil) EqsOk.nil) W0 G) (drise_n R ((k+1:Nat):Int) ((k+1+1:Nat):Int) k f hT hW (by omega) hq x0) rfl rfl (by omega) (fun i h0 h1=>by
     by_cases he:i=((k+1:Nat):Int)
     ·subst he;exact hq
     ·exact hJ i h0 (by omega))
   |false=>exact rnd_rD (⟨Try.prog,[],[],dkHo,Id'.one,60⟩:Sy Td) rfl ((fun (W0:World) (G:Nat→Prop)=>SyOk.mk2 Try.mixed dkHo_ok (FnsR.nil) EqsOk.nil) W0 G) (drise_r R ((k+1:Nat):Int) ((k+1+1:Nat):Int) k f hT hW (by omega) hq x0) rfl trivial
 ·revert hU
  match x with
  |.ret=>intro hU;simp only [Option.some.injEq] at hU;subst hU;exact hK
  |.normal=>intro hU;cases hU
  |.exit n=>intro hU;cases hU
set_option maxRecDepth 100000 in
theorem driseA_w0 (R:List Rw) :∃ qs,wayO Id' ([⟨.us (.ext (.vw [true,false,false,false] R)),false⟩]:Mem Td).length [⟨.us (.ext (.vw [true,false,false,false] R)),false⟩] (svV (.bool true)) ((runFn (⟨Try.prog,[],[],dkHo,Id'.one,60⟩:Sy Td) [(2,(lpG Id' 22 (hdC (loopsC (bodyOf Try.f115)) 0) 1 [(3,.c (.one (.v (.int .i64 ((0+1:Nat):Int)))))] [(0,.c (.one (.obj 0)))] [⟨.us (.ext (.vw [true,false,false,false] R)),false⟩] (.leaf (.exit 0) [] [⟨.us (.ext (.vw [true,false,false,false] R)),false⟩])))] Try.f115 [.one (.obj 0)] [⟨.us (.ext (.vw [true,false,false,false] R)),false⟩]).al [])=some qs∧∀ q∈qs,q:=
 ⟨[Th.ext (Dk.vw [true,false,false,false] R)=Th.ext (Dk.vw [true,false,false,false] R),Value.int IntKind.i64 (Int.ofNat 1)=Value.int IntKind.i64 (Int.ofNat ((0:Nat)+(1:Nat))),Th.ext (Dk.vw [true,false,false,false] R)=Th.ext (Dk.vw [true,false,false,false] R),Value.bool true=Value.bool true],by kernel_rfl,(by refine mcons ?_ (mcons ?_ (mcons ?_ (mcons ?_ mnil)))<;>first|rfl|trivial)⟩
set_option maxRecDepth 100000 in
theorem driseR_w0 (R:List Rw) :∃ qs,wayO Id' ([⟨.us (.ext (.vw [true,false,false,false] R)),false⟩]:Mem Td).length [⟨.us (.ext (.vw [true,false,false,false] R)),false⟩] (svV (.bool false)) ((runFn (⟨Try.prog,[],[],dkHo,Id'.one,60⟩:Sy Td) [(2,(lpG Id' 22 (hdC (loopsC (bodyOf Try.f115)) 0) 1 [(3,.c (.one (.v (.int .i64 ((0+1:Nat):Int)))))] [(0,.c (.one (.obj 0)))] [⟨.us (.ext (.vw [true,false,false,false] R)),false⟩] (.leaf .ret [(2,.c (.one (.kB false)))] [⟨.us (.ext (.vw [true,false,false,false] R)),false⟩])))] Try.f115 [.one (.obj 0)] [⟨.us (.ext (.vw [true,false,false,false] R)),false⟩]).al [])=some qs∧∀ q∈qs,q:=
 ⟨[Th.ext (Dk.vw [true,false,false,false] R)=Th.ext (Dk.vw [true,false,false,false] R),Value.int IntKind.i64 (Int.ofNat 1)=Value.int IntKind.i64 (Int.ofNat ((0:Nat)+(1:Nat))),Th.ext (Dk.vw [true,false,false,false] R)=Th.ext (Dk.vw [true,false,false,false] R),Value.bool false=Value.bool false],by kernel_rfl,(by refine mcons ?_ (mcons ?_ (mcons ?_ (mcons ?_ mnil)))<;>first|rfl|trivial)⟩
set_option maxRecDepth 100000 in
theorem ctf_w0 (R:List Rw) (h0:R.length≤100000):∃ qs,wayO Id' ([⟨.us (.ext (.vw [true,false,false,false] R)),false⟩]:Mem Td).length [⟨.us (.ext (.vw [true,false,false,false] R)),false⟩] (svV (.bool (!allI 0 R.length (isI R)))) ((runFn (⟨Try.prog,[(153,ctrF Id' C_ixf hardD)],[],dkHo,Id'.one,60⟩:Sy Td) [] Try.f116 [.one (.obj 0),.fn 117 []] [⟨.us (.ext (.vw [true,false,false,false] R)),false⟩]).al [])=some qs∧∀ q∈qs,q:=
 ⟨[R.length≤(100000:Nat),Th.ext (Dk.vw [true,false,false,false] R)=Th.ext (Dk.vw [true,false,false,false] R),Value.bool (decide (fstI R.length (isI R)≥(0:Int)))=Value.bool !allI (0:Nat) R.length (isI R)],by kernel_rfl,(by refine mcons ?_ (mcons ?_ (mcons ?_ mnil))<;>first|rfl|exact h0|trivial|(exact congrArg _ (fst_all R.length (isI R))))⟩
def C_ctf:Ctr Td:=fun us sub=>match us,sub with
 |[.one (.obj 0),.fn 117 []],[⟨.us (.ext (.vw [true,false,false,false] R)),false⟩]=>some ([R.length≤100000],svV (.bool (!allI 0 R.length (isI R))),[⟨.us (.ext (.vw [true,false,false,false] R)),false⟩])
 |_,_=>none
set_option maxRecDepth 100000 in
theorem C_ctf_ok:CtrOk Try.prog Id' 116 C_ctf:=by
 intro us sub ps x sm h hp w e vs hM ha
 unfold C_ctf at h
 split at h
 ·rename_i R
  simp only [Option.some.injEq,Prod.mk.injEq] at h
  obtain ⟨rfl,rfl,rfl⟩:=h
  exact ctr_way (I:=Id') (fun (W0:World) (G:Nat→Prop)=>SyOk.mk2 Try.mixed dkHo_ok (FnsR.cons (R_ixf) (FnsR.nil)) EqsOk.nil) rfl Try.func116 (by kernel_rfl) (fun _ _=>LpsOk.nil _) (cs:=[]) (by kernel_rfl) (ctf_w0 R (hp _ (List.mem_cons_self ..))) w e vs hM ha
 ·cases h
theorem R_ctf:RowOk Try.prog Id' hardD 116 (ctrF Id' C_ctf hardD):=ctrF_ok Try.call116 C_ctf_ok
def C_drise:Ctr Td:=fun us sub=>match us,sub with
 |[.one (.obj 0)],[⟨.us (.ext (.vw [true,false,false,false] R)),false⟩]=>some ([R.length≤100000],svV (.bool (allI 1 R.length (riseI R))),[⟨.us (.ext (.vw [true,false,false,false] R)),false⟩])
 |_,_=>none
set_option maxRecDepth 100000 in
theorem C_drise_ok:CtrOk Try.prog Id' 115 C_drise:=by
 intro us sub ps x sm h hp w e vs hM ha
 unfold C_drise at h
 split at h
 ·rename_i R
  simp only [Option.some.injEq,Prod.mk.injEq] at h
  obtain ⟨rfl,rfl,rfl⟩:=h
  have hL:R.length≤100000:=hp _ (List.mem_cons_self ..)
  rcases allI_cases 1 R.length (riseI R) with ⟨hv,hall⟩|⟨hv,hex⟩
  ·rw [hv]
   exact ctr_way (I:=Id') (fun (W0:World) (G:Nat→Prop)=>SyOk.mk2 Try.mixed dkHo_ok (FnsR.nil) EqsOk.nil) rfl Try.func115 (by kernel_rfl) (fun _ _=>LpsOk.cons (by kernel_rfl) (drise_lpA R hL hL hall _ rfl) (LpsOk.nil _)) (cs:=[]) (by kernel_rfl) (driseA_w0 R ) w e vs hM ha
  ·rw [hv]
   exact ctr_way (I:=Id') (fun (W0:World) (G:Nat→Prop)=>SyOk.mk2 Try.mixed dkHo_ok (FnsR.nil) EqsOk.nil) rfl Try.func115 (by kernel_rfl) (fun _ _=>LpsOk.cons (by kernel_rfl) (drise_lpR R hL hL hex _ rfl) (LpsOk.nil _)) (cs:=[]) (by kernel_rfl) (driseR_w0 R ) w e vs hM ha
 ·cases h
theorem R_drise:RowOk Try.prog Id' hardD 115 (ctrF Id' C_drise hardD):=ctrF_ok Try.call115 C_drise_ok
end Go.Proofs.Ytdenmoiaiemokaa
