/- W3. -/
import Derived.Test.YtdenmoiaiemokaaW2p
set_option linter.unusedVariables false
set_option linter.unusedSimpArgs false
namespace Go.Proofs.Ytdenmoiaiemokaa
open Go.RowKit
def nmR (R:List Rw) (i:Int):ByteArray:=(R.getD i.toNat Rw.zero).ss.getD 0 ⟨#[]⟩
def bsH (i j:Int):Int:=(IntKind.i64.wrap ((IntKind.u64.wrap (IntKind.i64.wrap (i+j))).fdiv (2 ^ min (Int.toNat 1) IntKind.u64.bits)))
def bsI (R:List Rw) (s:ByteArray) (i j:Int):Int:=bif decide (cmpS (nmR R (bsH i j)) s<0) then IntKind.i64.wrap (bsH i j+1) else i
def bsJ (R:List Rw) (s:ByteArray) (i j:Int):Int:=bif decide (cmpS (nmR R (bsH i j)) s<0) then j else bsH i j
def bsS (R:List Rw) (s:ByteArray):Nat→Int×Int
 |0=>(0,(R.length:Int))
 |k+1=>bif decide ((bsS R s k).1<(bsS R s k).2) then (bsI R s (bsS R s k).1 (bsS R s k).2,bsJ R s (bsS R s k).1 (bsS R s k).2) else bsS R s k
def bsE (R:List Rw) (s:ByteArray):Int:=(bsS R s R.length).1
def bsB (R:List Rw) (s:ByteArray):Bool:=decide (bsE R s<(R.length:Int))&&cmpS (nmR R (bsE R s)) s==0
theorem bsH_mid {i j:Int} (h:0≤i∧i<j∧j≤100000):i≤bsH i j∧bsH i j<j:=by
 unfold bsH
 rw [IntWalk.i64_in (i+j) (by omega),u64w_id (by omega),show ((2:Int) ^ min (Int.toNat 1) IntKind.u64.bits)=2 from rfl,Int.fdiv_eq_ediv_of_nonneg _ (by decide),IntWalk.i64_in _ (by omega)]
 omega
theorem bsS_inv {R:List Rw} {s:ByteArray} (hR:R.length≤100000):∀ k,k≤R.length→0≤(bsS R s k).1∧(bsS R s k).1≤(bsS R s k).2∧(bsS R s k).2≤(R.length:Int)∧(bsS R s k).2 - (bsS R s k).1+(k:Int)≤(R.length:Int)∨0≤(bsS R s k).1∧(bsS R s k).1=(bsS R s k).2∧(bsS R s k).2≤(R.length:Int)
 |0,_=>.inl ⟨Int.le_refl _,by show (0:Int)≤(R.length:Int);omega,Int.le_refl _,by show (R.length:Int) - 0+0≤_;omega⟩
 |k+1,hk=>by
  have ih:=bsS_inv (s:=s) hR k (by omega)
  obtain ⟨i,hi⟩:∃ i,i=(bsS R s k).1:=⟨_,rfl⟩
  obtain ⟨j,hj⟩:∃ j,j=(bsS R s k).2:=⟨_,rfl⟩
  have hs:bsS R s (k+1)=bif decide (i<j) then (bsI R s i j,bsJ R s i j) else bsS R s k:=by rw [hi,hj];rfl
  rw [← hi,←hj] at ih
  cases hd:decide (i<j) with
  |false=>
   rw [hd] at hs
   have hs:bsS R s (k+1)=bsS R s k:=hs
   have:=of_decide_eq_false hd
   rw [hs,←hi,←hj]
   exact .inr (by omega)
  |true=>
   have hlt:=of_decide_eq_true hd
   rw [hd] at hs
   have hs:bsS R s (k+1)=(bsI R s i j,bsJ R s i j):=hs
   have hm:=bsH_mid (i:=i) (j:=j) (by omega)
   rw [hs]
   unfold bsI bsJ
   cases decide (cmpS (nmR R (bsH i j)) s<0) with
   |true=>
    simp only [cond_true]
    rw [IntWalk.i64_in _ (by omega)]
    exact .inl (by omega)
   |false=>
    simp only [cond_false]
    exact .inl (by omega)
theorem bsS_stop {R:List Rw} {s:ByteArray} {k:Nat} (h:¬ (bsS R s k).1<(bsS R s k).2):∀ m,bsS R s (k+m)=bsS R s k
 |0=>rfl
 |m+1=>by
  have ih:=bsS_stop h m
  show (bif decide ((bsS R s (k+m)).1<(bsS R s (k+m)).2) then _ else bsS R s (k+m))=_
  rw [ih,decide_eq_false h];rfl
set_option maxRecDepth 100000 in
theorem bs_n (R:List Rw) (s:ByteArray) (i j i2 j2:Int) (k:Nat) (f:Nat→Value) (h0:decide (i<j)=true) (h1:0≤bsH i j∧(bsH i j).toNat<R.length) (h2:bsI R s i j=i2) (h3:bsJ R s i j=j2):∃ qs,alN Id' 1 [(9,.c (.one (.v (.int .i64 i2)))),(10,.c (.one (.v (.int .i64 j2))))] [⟨.us (.ext (.vw [true,false,false,false] R)),false⟩] ((symC (⟨Try.prog,[(131,ctrV C_fcmp hardD)],[],dkHo,Id'.one,60⟩:Sy Td) [] 49 (hdC (loopsC (bodyOf Try.f130)) 0) ⟨[(9,.c (.one (.v (.int .i64 i)))),(10,.c (.one (.v (.int .i64 j))))]++anyB' (writesC (hdC (loopsC (bodyOf Try.f130)) 0)) ([(0,.c (.one (.obj 0))),(1,.c (.one (.v (.string s)))),(2,.c (.fn 131 [])),(8,.c (.one (.v (.int .i64 (R.length:Int)))))]++tabV f 49),[⟨.us (.ext (.vw [true,false,false,false] R)),false⟩],0⟩).al [true])=some qs∧∀ q∈qs,q:=
 ⟨[decide (i<j)=true,(0:Int)≤IntKind.i64.wrap ((IntKind.u64.wrap (IntKind.i64.wrap (i+j))).fdiv ((2:Int) ^ min (Int.toNat (1:Int)) IntKind.u64.bits))∧(IntKind.i64.wrap ((IntKind.u64.wrap (IntKind.i64.wrap (i+j))).fdiv ((2:Int) ^ min (Int.toNat (1:Int)) IntKind.u64.bits))).toNat<R.length,Th.ext (Dk.vw [true,false,false,false] R)=Th.ext (Dk.vw [true,false,false,false] R),Value.int IntKind.i64 (bif decide (cmpS ((R.getD (IntKind.i64.wrap ((IntKind.u64.wrap (IntKind.i64.wrap (i+j))).fdiv ((2:Int) ^ min (Int.toNat (1:Int)) IntKind.u64.bits))).toNat Rw.zero).ss.getD (0:Nat) (ByteArray.mk #[])) s<(0:Int)) then IntKind.i64.wrap (IntKind.i64.wrap ((IntKind.u64.wrap (IntKind.i64.wrap (i+j))).fdiv ((2:Int) ^ min (Int.toNat (1:Int)) IntKind.u64.bits))+(1:Int)) else i)=Value.int IntKind.i64 i2,Value.int IntKind.i64 (bif decide (cmpS ((R.getD (IntKind.i64.wrap ((IntKind.u64.wrap (IntKind.i64.wrap (i+j))).fdiv ((2:Int) ^ min (Int.toNat (1:Int)) IntKind.u64.bits))).toNat Rw.zero).ss.getD (0:Nat) (ByteArray.mk #[])) s<(0:Int)) then j else IntKind.i64.wrap ((IntKind.u64.wrap (IntKind.i64.wrap (i+j))).fdiv ((2:Int) ^ min (Int.toNat (1:Int)) IntKind.u64.bits)))=Value.int IntKind.i64 j2],by kernel_rfl,(by refine mcons ?_ (mcons ?_ (mcons ?_ (mcons ?_ (mcons ?_ mnil))))<;>first|rfl|exact h0|exact h1|exact h2|exact h3|trivial|(exact congrArg _ h2)|(exact congrArg _ h3))⟩
set_option maxRecDepth 100000 in
theorem bs_x (R:List Rw) (s:ByteArray) (i j i2 j2:Int) (k:Nat) (f:Nat→Value) (h0:decide (i<j)=false):∃ qs,alX Id' 1 0 [(9,.c (.one (.v (.int .i64 i))))] [⟨.us (.ext (.vw [true,false,false,false] R)),false⟩] ((symC (⟨Try.prog,[(131,ctrV C_fcmp hardD)],[],dkHo,Id'.one,60⟩:Sy Td) [] 49 (hdC (loopsC (bodyOf Try.f130)) 0) ⟨[(9,.c (.one (.v (.int .i64 i)))),(10,.c (.one (.v (.int .i64 j))))]++anyB' (writesC (hdC (loopsC (bodyOf Try.f130)) 0)) ([(0,.c (.one (.obj 0))),(1,.c (.one (.v (.string s)))),(2,.c (.fn 131 [])),(8,.c (.one (.v (.int .i64 (R.length:Int)))))]++tabV f 49),[⟨.us (.ext (.vw [true,false,false,false] R)),false⟩],0⟩).al [false])=some qs∧∀ q∈qs,q:=
 ⟨[decide (i<j)=false,Th.ext (Dk.vw [true,false,false,false] R)=Th.ext (Dk.vw [true,false,false,false] R),Value.int IntKind.i64 i=Value.int IntKind.i64 i],by kernel_rfl,(by refine mcons ?_ (mcons ?_ (mcons ?_ mnil))<;>first|rfl|exact h0|trivial)⟩
set_option maxRecDepth 100000 in
theorem bs_lp (R:List Rw) (s:ByteArray) (hR:R.length≤100000) {W0:World} {G:Nat→Prop} (S0:Sy Td) (hS0:S0.P=Try.prog):LoopSound S0 Id' W0 G 49 (hdC (loopsC (bodyOf Try.f130)) 0) (lpG Id' 49 (hdC (loopsC (bodyOf Try.f130)) 0) 1 [(9,.c (.one (.v (.int .i64 (bsS R s 0).1)))),(10,.c (.one (.v (.int .i64 (bsS R s 0).2))))] [(0,.c (.one (.obj 0))),(1,.c (.one (.v (.string s)))),(2,.c (.fn 131 [])),(8,.c (.one (.v (.int .i64 (R.length:Int)))))] [⟨.us (.ext (.vw [true,false,false,false] R)),false⟩] (.leaf (.exit 0) [(9,.c (.one (.v (.int .i64 (bsE R s)))))] [⟨.us (.ext (.vw [true,false,false,false] R)),false⟩])):=by
 refine lp_sound (V:=fun k=>[(9,.c (.one (.v (.int .i64 (bsS R s k).1)))),(10,.c (.one (.v (.int .i64 (bsS R s k).2))))]) (M:=(fun k=>[⟨.us (.ext (.vw [true,false,false,false] R)),false⟩]:Nat→Mem Td)) (N:=R.length) (Ux:=fun k x=>match x with|.exit 0=>some ([(9,.c (.one (.v (.int .i64 (bsE R s)))))],([⟨.us (.ext (.vw [true,false,false,false] R)),false⟩]:Mem Td))|_=>none) (X:=fun _ _=>True) (J:=fun _=>True) (fun k=>by kernel_rfl) trivial (fun k hk hJ f=>?_) (fun K hK k x U hk hU hX=>?_)
 ·rw [hS0]
  have inv:=bsS_inv (s:=s) hR k hk
  cases hc:decide ((bsS R s k).1<(bsS R s k).2) with
  |false=>
   have hst:=bsS_stop (of_decide_eq_false hc) (R.length - k)
   rw [show k+(R.length - k)=R.length by omega] at hst
   have he:bsE R s=(bsS R s k).1:=by unfold bsE;rw [hst]
   simp only [he]
   exact rnd_xD (⟨Try.prog,[(131,ctrV C_fcmp hardD)],[],dkHo,Id'.one,60⟩:Sy Td) rfl ((fun (W0:World) (G:Nat→Prop)=>SyOk.mk2 Try.mixed dkHo_ok (FnsR.cons (R_fcmp) (FnsR.nil)) EqsOk.nil) W0 G) (bs_x R s (bsS R s k).1 (bsS R s k).2 0 0 k f hc) rfl trivial
  |true=>
   have hlt:=of_decide_eq_true hc
   have hm:=bsH_mid (i:=(bsS R s k).1) (j:=(bsS R s k).2) (by omega)
   have h1:bsS R s (k+1)=(bsI R s (bsS R s k).1 (bsS R s k).2,bsJ R s (bsS R s k).1 (bsS R s k).2):=by
    show (bif decide ((bsS R s k).1<(bsS R s k).2) then _ else bsS R s k)=_
    rw [hc];rfl
   exact rnd_nD (⟨Try.prog,[(131,ctrV C_fcmp hardD)],[],dkHo,Id'.one,60⟩:Sy Td) rfl ((fun (W0:World) (G:Nat→Prop)=>SyOk.mk2 Try.mixed dkHo_ok (FnsR.cons (R_fcmp) (FnsR.nil)) EqsOk.nil) W0 G) (bs_n R s (bsS R s k).1 (bsS R s k).2 (bsS R s (k+1)).1 (bsS R s (k+1)).2 k f hc (by omega) (by rw [h1]) (by rw [h1])) rfl rfl (by omega) trivial
 ·revert hU
  match x with
  |.exit 0=>intro hU;simp only [Option.some.injEq] at hU;subst hU;exact hK
  |.normal=>intro hU;cases hU
  |.ret=>intro hU;cases hU
  |.exit (n+1)=>intro hU;cases hU
set_option maxRecDepth 100000 in
theorem bsf_w0 (R:List Rw) (s:ByteArray) (h0:(decide (bsE R s<(R.length:Int))&&true)=true→0≤bsE R s∧(bsE R s).toNat<R.length):∃ qs,wayO Id' ([⟨.us (.ext (.vw [true,false,false,false] R)),false⟩]:Mem Td).length [⟨.us (.ext (.vw [true,false,false,false] R)),false⟩] (.tup [.one (.v (.int .i64 (bsE R s))),.one (.v (.bool (bsB R s)))]) ((runFn (⟨Try.prog,[(131,ctrV C_fcmp hardD)],[],dkHo,Id'.one,60⟩:Sy Td) [(3,(lpG Id' 49 (hdC (loopsC (bodyOf Try.f130)) 0) 1 [(9,.c (.one (.v (.int .i64 (bsS R s 0).1)))),(10,.c (.one (.v (.int .i64 (bsS R s 0).2))))] [(0,.c (.one (.obj 0))),(1,.c (.one (.v (.string s)))),(2,.c (.fn 131 [])),(8,.c (.one (.v (.int .i64 (R.length:Int)))))] [⟨.us (.ext (.vw [true,false,false,false] R)),false⟩] (.leaf (.exit 0) [(9,.c (.one (.v (.int .i64 (bsE R s)))))] [⟨.us (.ext (.vw [true,false,false,false] R)),false⟩])))] Try.f130 [.one (.obj 0),.one (.v (.string s)),.fn 131 []] [⟨.us (.ext (.vw [true,false,false,false] R)),false⟩]).al [])=some qs∧∀ q∈qs,q:=
 ⟨[Value.string s=Value.string s,Value.int IntKind.i64 (↑R.length:Int)=Value.int IntKind.i64 (↑R.length:Int),Th.ext (Dk.vw [true,false,false,false] R)=Th.ext (Dk.vw [true,false,false,false] R),Value.int IntKind.i64 (Int.ofNat 0)=Value.int IntKind.i64 (bsS R s (0:Nat)).fst,Value.int IntKind.i64 (↑R.length:Int)=Value.int IntKind.i64 (bsS R s (0:Nat)).snd,(decide (bsE R s<(↑R.length:Int))&&true)=true→(0:Int)≤bsE R s∧(bsE R s).toNat<R.length,Th.ext (Dk.vw [true,false,false,false] R)=Th.ext (Dk.vw [true,false,false,false] R),Value.int IntKind.i64 (bsE R s)=Value.int IntKind.i64 (bsE R s),Value.bool (decide (bsE R s<(↑R.length:Int))&&cmpS ((R.getD (bsE R s).toNat Rw.zero).ss.getD (0:Nat) (ByteArray.mk #[])) s==(0:Int))=Value.bool (bsB R s)],by kernel_rfl,(by refine mcons ?_ (mcons ?_ (mcons ?_ (mcons ?_ (mcons ?_ (mcons ?_ (mcons ?_ (mcons ?_ (mcons ?_ mnil))))))))<;>first|rfl|exact h0|trivial)⟩
def C_bsf:Ctr Td:=fun us sub=>match us,sub with
 |[.one (.obj 0),.one (.v (.string s)),.fn 131 []],[⟨.us (.ext (.vw [true,false,false,false] R)),false⟩]=>some ([R.length≤100000],.tup [.one (.v (.int .i64 (bsE R s))),.one (.v (.bool (bsB R s)))],[⟨.us (.ext (.vw [true,false,false,false] R)),false⟩])
 |_,_=>none
set_option maxRecDepth 100000 in
theorem C_bsf_ok:CtrOk Try.prog Id' 130 C_bsf:=by
 intro us sub ps x sm h hp w e vs hM ha
 unfold C_bsf at h
 split at h
 ·rename_i s R
  simp only [Option.some.injEq,Prod.mk.injEq] at h
  obtain ⟨rfl,rfl,rfl⟩:=h
  have hR:R.length≤100000:=hp _ (List.mem_cons_self ..)
  have h0:(decide (bsE R s<(R.length:Int))&&true)=true→0≤bsE R s∧(bsE R s).toNat<R.length:=fun h=>by
   have h1:=bsS_inv (s:=s) hR R.length (Nat.le_refl _)
   have h2:bsE R s<(R.length:Int):=by simpa using h
   have h3:0≤bsE R s:=by unfold bsE;omega
   omega
  exact ctr_way (I:=Id') (fun (W0:World) (G:Nat→Prop)=>SyOk.mk2 Try.mixed dkHo_ok (FnsR.cons (R_fcmp) (FnsR.nil)) EqsOk.nil) rfl Try.func130 (by kernel_rfl) (fun _ _=>LpsOk.cons (by kernel_rfl) (bs_lp R s hR _ rfl) (LpsOk.nil _)) (cs:=[]) (by kernel_rfl) (bsf_w0 R s h0) w e vs hM ha
 ·cases h
theorem R_bsf:RowOk Try.prog Id' hardD 130 (ctrF Id' C_bsf hardD):=ctrF_ok Try.call130 C_bsf_ok
end Go.Proofs.Ytdenmoiaiemokaa
