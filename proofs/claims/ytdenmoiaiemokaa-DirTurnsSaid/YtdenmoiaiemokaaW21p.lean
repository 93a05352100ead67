/- W16 W17 W18 W19 W20 W21. -/
import Derived.Test.YtdenmoiaiemokaaW15p
set_option linter.unusedVariables false
set_option linter.unusedSimpArgs false
namespace Go.Proofs.Ytdenmoiaiemokaa
open Go.RowKit
def chI (nm:ByteArray) (i:Int):Int:=bif decide (i<(nm.size:Int)) then (((nm.data.toList.getD i.toNat 0).toNat:Nat):Int) else 0
def putN (s:WS) (nm:ByteArray):Nat→WS
 |0=>s
 |k+1=>(putN s nm k).put (chI nm (k:Int)) 8
theorem putN_n (s:WS) (nm:ByteArray):∀ k,(putN s nm k).n=s.n+64 * k
 |0=>rfl
 |k+1=>by show (putN s nm k).n+64=_;rw [putN_n s nm k];omega
theorem u64b (x:UInt8):IntKind.u64.wrap ((x.toNat:Nat):Int)=((x.toNat:Nat):Int):=by have:=x.toNat_lt;exact u64w_id (by omega)
set_option maxRecDepth 100000 in
theorem dput_n1 (s s2:WS) (nm:ByteArray) (a b c:Int) (i i2:Int) (k:Nat) (f:Nat→Value) (h0:decide (i<(16:Int))=true) (h1:IntKind.i64.wrap (i+1)=i2) (h2:0≤i∧i.toNat<nm.size) (h3:decide (i<(nm.size:Int))=true) (h4:s.n≤500000000) (h5:s.put (IntKind.u64.wrap (((nm.data.toList.getD i.toNat 0).toNat:Nat):Int)) 8=s2) (h6:(0:Int)≤IntKind.u64.wrap (((nm.data.toList.getD i.toNat 0).toNat:Nat):Int)∧IntKind.u64.wrap (((nm.data.toList.getD i.toNat 0).toNat:Nat):Int)<(18446744073709551616:Int)):∃ qs,alN Id' 2 [(26,.c (.one (.v (.int .i64 i2))))] [⟨.us (.wr s2),true⟩,⟨.blk [.v (.string nm),.v (.int .i64 a),.v (.int .i64 b),.v (.int .i64 c)],true⟩] ((symC (⟨Try.prog,[F_putP (ξ:=Dk) (hx:=hardDk)],[],dkHo,Id'.one,60⟩:Sy Td) [] 43 (hdC (loopsC (bodyOf Try.f120)) 0) ⟨[(26,.c (.one (.v (.int .i64 i))))]++anyB' (writesC (hdC (loopsC (bodyOf Try.f120)) 0)) ([(0,.c (.one (.obj 0))),(3,.c (.one (.ptr 1 0)))]++tabV f 43),[⟨.us (.wr s),true⟩,⟨.blk [.v (.string nm),.v (.int .i64 a),.v (.int .i64 b),.v (.int .i64 c)],true⟩],0⟩).al [true,true])=some qs∧∀ q∈qs,q:=
 ⟨[decide (i<(16:Int))=true,decide (i<(↑nm.size:Int))=true,(0:Int)≤i∧i.toNat<nm.size,(0:Int)≤IntKind.u64.wrap (↑(nm.data.toList.getD i.toNat (0:UInt8)).toNat:Int)∧IntKind.u64.wrap (↑(nm.data.toList.getD i.toNat (0:UInt8)).toNat:Int)<(18446744073709551616:Int),s.n≤(500000000:Nat),(Th.wr (s.put (IntKind.u64.wrap (((nm.data.toList.getD i.toNat 0).toNat:Nat):Int)) 8):Td)=Th.wr s2,Value.string nm=Value.string nm,Value.int IntKind.i64 a=Value.int IntKind.i64 a,Value.int IntKind.i64 b=Value.int IntKind.i64 b,Value.int IntKind.i64 c=Value.int IntKind.i64 c,Value.int IntKind.i64 (IntKind.i64.wrap (i+(1:Int)))=Value.int IntKind.i64 i2],by kernel_rfl,(by refine mcons ?_ (mcons ?_ (mcons ?_ (mcons ?_ (mcons ?_ (mcons ?_ (mcons ?_ (mcons ?_ (mcons ?_ (mcons ?_ (mcons ?_ mnil))))))))))<;>first|(exact congrArg Th.wr h5)|(exact congrArg _ h1)|exact h0|exact h1|exact h2|exact h3|exact h4|exact h5|exact h6|rfl|trivial|(exact congrArg _ h1)|(exact ⟨h2,by have:=of_decide_eq_true h3;omega⟩)|(have h:=u64b (nm.data.toList.getD i.toNat 0);have h9:=(nm.data.toList.getD i.toNat 0).toNat_lt;rw [h];omega)|(exact ⟨by decide,by decide⟩)|(exact congrArg _ h5)|(exact congrArg _ h1))⟩
set_option maxRecDepth 100000 in
theorem dput_n2 (s s2:WS) (nm:ByteArray) (a b c:Int) (i i2:Int) (k:Nat) (f:Nat→Value) (h0:decide (i<(16:Int))=true) (h1:IntKind.i64.wrap (i+1)=i2) (h2:0≤i) (h3:decide (i<(nm.size:Int))=false) (h4:s.n≤500000000) (h5:s.put 0 8=s2) (h6:(0:Int)≤Int.ofNat (0:Nat)∧Int.ofNat (0:Nat)<(18446744073709551616:Int)):∃ qs,alN Id' 2 [(26,.c (.one (.v (.int .i64 i2))))] [⟨.us (.wr s2),true⟩,⟨.blk [.v (.string nm),.v (.int .i64 a),.v (.int .i64 b),.v (.int .i64 c)],true⟩] ((symC (⟨Try.prog,[F_putP (ξ:=Dk) (hx:=hardDk)],[],dkHo,Id'.one,60⟩:Sy Td) [] 43 (hdC (loopsC (bodyOf Try.f120)) 0) ⟨[(26,.c (.one (.v (.int .i64 i))))]++anyB' (writesC (hdC (loopsC (bodyOf Try.f120)) 0)) ([(0,.c (.one (.obj 0))),(3,.c (.one (.ptr 1 0)))]++tabV f 43),[⟨.us (.wr s),true⟩,⟨.blk [.v (.string nm),.v (.int .i64 a),.v (.int .i64 b),.v (.int .i64 c)],true⟩],0⟩).al [true,false])=some qs∧∀ q∈qs,q:=
 ⟨[decide (i<(16:Int))=true,decide (i<(↑nm.size:Int))=false,(0:Int)≤Int.ofNat (0:Nat)∧Int.ofNat (0:Nat)<(18446744073709551616:Int),s.n≤(500000000:Nat),(Th.wr (s.put 0 8):Td)=Th.wr s2,Value.string nm=Value.string nm,Value.int IntKind.i64 a=Value.int IntKind.i64 a,Value.int IntKind.i64 b=Value.int IntKind.i64 b,Value.int IntKind.i64 c=Value.int IntKind.i64 c,Value.int IntKind.i64 (IntKind.i64.wrap (i+(1:Int)))=Value.int IntKind.i64 i2],by kernel_rfl,(by refine mcons ?_ (mcons ?_ (mcons ?_ (mcons ?_ (mcons ?_ (mcons ?_ (mcons ?_ (mcons ?_ (mcons ?_ (mcons ?_ mnil)))))))))<;>first|(exact congrArg Th.wr h5)|(exact congrArg _ h1)|exact h0|exact h1|exact h2|exact h3|exact h4|exact h5|exact h6|rfl|trivial|(exact congrArg _ h1)|(exact ⟨h2,by have:=of_decide_eq_true h3;omega⟩)|(have h:=u64b (nm.data.toList.getD i.toNat 0);have h9:=(nm.data.toList.getD i.toNat 0).toNat_lt;rw [h];omega)|(exact ⟨by decide,by decide⟩)|(exact congrArg _ h5)|(exact congrArg _ h1))⟩
set_option maxRecDepth 100000 in
theorem dput_x (s s2:WS) (nm:ByteArray) (a b c:Int) (i i2:Int) (k:Nat) (f:Nat→Value) (h0:decide (i<(16:Int))=false) (h1:s=s2):∃ qs,alX Id' 2 0 [] [⟨.us (.wr s2),true⟩,⟨.blk [.v (.string nm),.v (.int .i64 a),.v (.int .i64 b),.v (.int .i64 c)],true⟩] ((symC (⟨Try.prog,[F_putP (ξ:=Dk) (hx:=hardDk)],[],dkHo,Id'.one,60⟩:Sy Td) [] 43 (hdC (loopsC (bodyOf Try.f120)) 0) ⟨[(26,.c (.one (.v (.int .i64 i))))]++anyB' (writesC (hdC (loopsC (bodyOf Try.f120)) 0)) ([(0,.c (.one (.obj 0))),(3,.c (.one (.ptr 1 0)))]++tabV f 43),[⟨.us (.wr s),true⟩,⟨.blk [.v (.string nm),.v (.int .i64 a),.v (.int .i64 b),.v (.int .i64 c)],true⟩],0⟩).al [false])=some qs∧∀ q∈qs,q:=
 ⟨[decide (i<(16:Int))=false,(Th.wr s:Td)=Th.wr s2,Value.string nm=Value.string nm,Value.int IntKind.i64 a=Value.int IntKind.i64 a,Value.int IntKind.i64 b=Value.int IntKind.i64 b,Value.int IntKind.i64 c=Value.int IntKind.i64 c],by kernel_rfl,(by refine mcons ?_ (mcons ?_ (mcons ?_ (mcons ?_ (mcons ?_ (mcons ?_ mnil)))))<;>first|rfl|exact h0|exact h1|rfl|trivial|(exact congrArg _ h1))⟩
set_option maxRecDepth 100000 in
theorem dput_lp (s:WS) (nm:ByteArray) (a b c:Int) (hs:s.n≤400000000) {W0:World} {G:Nat→Prop} (S0:Sy Td) (hS0:S0.P=Try.prog):LoopSound S0 Id' W0 G 43 (hdC (loopsC (bodyOf Try.f120)) 0) (lpG Id' 43 (hdC (loopsC (bodyOf Try.f120)) 0) 2 [(26,.c (.one (.v (.int .i64 ((0:Nat):Int)))))] [(0,.c (.one (.obj 0))),(3,.c (.one (.ptr 1 0)))] [⟨.us (.wr (putN s nm 0)),true⟩,⟨.blk [.v (.string nm),.v (.int .i64 a),.v (.int .i64 b),.v (.int .i64 c)],true⟩] (.leaf (.exit 0) [] [⟨.us (.wr (putN s nm 16)),true⟩,⟨.blk [.v (.string nm),.v (.int .i64 a),.v (.int .i64 b),.v (.int .i64 c)],true⟩])):=by
 refine lp_sound (V:=fun k=>[(26,.c (.one (.v (.int .i64 (k:Int)))))]) (M:=(fun k=>[⟨.us (.wr (putN s nm k)),true⟩,⟨.blk [.v (.string nm),.v (.int .i64 a),.v (.int .i64 b),.v (.int .i64 c)],true⟩]:Nat→Mem Td)) (N:=16) (Ux:=fun k x=>match x with|.exit 0=>some ([],([⟨.us (.wr (putN s nm 16)),true⟩,⟨.blk [.v (.string nm),.v (.int .i64 a),.v (.int .i64 b),.v (.int .i64 c)],true⟩]:Mem Td))|_=>none) (X:=fun _ _=>True) (J:=fun k=>True) (fun k=>by kernel_rfl) trivial (fun k hk hJ f=>?_) (fun K hK k x U hk hU hX=>?_)
 ·rw [hS0]
  have hn:=putN_n s nm k
  cases hT:decide ((k:Int)<(16:Int)) with
  |false=>
   have hke:k=16:=by have:=of_decide_eq_false hT;omega
   exact rnd_xD (⟨Try.prog,[F_putP (ξ:=Dk) (hx:=hardDk)],[],dkHo,Id'.one,60⟩:Sy Td) rfl ((fun (W0:World) (G:Nat→Prop)=>SyOk.mk2 Try.mixed dkHo_ok (FnsR.cons (F_putP_ok (J:=dkI) (hx:=hardDk)) (FnsR.nil)) EqsOk.nil) W0 G) (dput_x (putN s nm k) (putN s nm 16) nm a b c (k:Int) ((k+1:Nat):Int) k f hT (by rw [hke])) rfl  trivial
  |true=>
   have hk1:=of_decide_eq_true hT
   have hW:IntKind.i64.wrap ((k:Int)+1)=((k+1:Nat):Int):=by rw [IntWalk.i64_in _ (by omega)];omega
   cases hq:decide ((k:Int)<(nm.size:Int)) with
   |true=>
    have he:(putN s nm k).put (IntKind.u64.wrap (((nm.data.toList.getD (k:Int).toNat 0).toNat:Nat):Int)) 8=putN s nm (k+1):=by
     show _=(putN s nm k).put (chI nm (k:Int)) 8
     unfold chI;rw [u64b,hq];rfl
    exact rnd_nD (⟨Try.prog,[F_putP (ξ:=Dk) (hx:=hardDk)],[],dkHo,Id'.one,60⟩:Sy Td) rfl ((fun (W0:World) (G:Nat→Prop)=>SyOk.mk2 Try.mixed dkHo_ok (FnsR.cons (F_putP_ok (J:=dkI) (hx:=hardDk)) (FnsR.nil)) EqsOk.nil) W0 G) (dput_n1 (putN s nm k) (putN s nm (k+1)) nm a b c (k:Int) ((k+1:Nat):Int) k f hT hW ⟨by omega,by have:=of_decide_eq_true hq;omega⟩ hq (by omega) he (by rw [u64b];have:=(nm.data.toList.getD (k:Int).toNat 0).toNat_lt;omega)) rfl  rfl (by omega) trivial
   |false=>
    have he:(putN s nm k).put 0 8=putN s nm (k+1):=by
     show _=(putN s nm k).put (chI nm (k:Int)) 8
     unfold chI;rw [hq];rfl
    exact rnd_nD (⟨Try.prog,[F_putP (ξ:=Dk) (hx:=hardDk)],[],dkHo,Id'.one,60⟩:Sy Td) rfl ((fun (W0:World) (G:Nat→Prop)=>SyOk.mk2 Try.mixed dkHo_ok (FnsR.cons (F_putP_ok (J:=dkI) (hx:=hardDk)) (FnsR.nil)) EqsOk.nil) W0 G) (dput_n2 (putN s nm k) (putN s nm (k+1)) nm a b c (k:Int) ((k+1:Nat):Int) k f hT hW (by omega) hq (by omega) he ⟨by decide,by decide⟩) rfl  rfl (by omega) trivial
 ·revert hU
  match x with
  |.exit 0=>intro hU;simp only [Option.some.injEq] at hU;subst hU;exact hK
  |.normal=>intro hU;cases hU
  |.ret=>intro hU;cases hU
  |.exit (n+1)=>intro hU;cases hU
end Go.Proofs.Ytdenmoiaiemokaa
set_option linter.unusedVariables false
set_option linter.unusedSimpArgs false
namespace Go.Proofs.Ytdenmoiaiemokaa
open Go.RowKit
set_option maxRecDepth 100000 in
theorem dput_w0 (s s1 s2:WS) (nm:ByteArray) (a b c:Int) (h0:((((s.put (IntKind.u64.wrap (nm.size:Int)) 5).put (IntKind.u64.wrap a) 6).put (IntKind.u64.wrap b) 31).put (IntKind.u64.wrap c) 2)=s1) (h1:putN s1 nm 16=s2) (h2:(0:Int)≤IntKind.u64.wrap (nm.size:Int)∧IntKind.u64.wrap (nm.size:Int)<(18446744073709551616:Int)) (h3:(0:Int)≤IntKind.u64.wrap a∧IntKind.u64.wrap a<(18446744073709551616:Int)) (h4:(0:Int)≤IntKind.u64.wrap b∧IntKind.u64.wrap b<(18446744073709551616:Int)) (h5:(0:Int)≤IntKind.u64.wrap c∧IntKind.u64.wrap c<(18446744073709551616:Int)) (h6:s.n≤500000000) (h7:(s.put (IntKind.u64.wrap (nm.size:Int)) 5).n≤500000000) (h8:((s.put (IntKind.u64.wrap (nm.size:Int)) 5).put (IntKind.u64.wrap a) 6).n≤500000000) (h9:(((s.put (IntKind.u64.wrap (nm.size:Int)) 5).put (IntKind.u64.wrap a) 6).put (IntKind.u64.wrap b) 31).n≤500000000):∃ qs,wayO Id' ([⟨.us (.wr s),true⟩]:Mem Td).length [⟨.us (.wr s2),true⟩,⟨.dead,true⟩] (.tup []) ((runFn (⟨Try.prog,[F_putP (ξ:=Dk) (hx:=hardDk)],[],dkHo,Id'.one,60⟩:Sy Td) [(3,(lpG Id' 43 (hdC (loopsC (bodyOf Try.f120)) 0) 2 [(26,.c (.one (.v (.int .i64 ((0:Nat):Int)))))] [(0,.c (.one (.obj 0))),(3,.c (.one (.ptr 1 0)))] [⟨.us (.wr (putN s1 nm 0)),true⟩,⟨.blk [.v (.string nm),.v (.int .i64 a),.v (.int .i64 b),.v (.int .i64 c)],true⟩] (.leaf (.exit 0) [] [⟨.us (.wr (putN s1 nm 16)),true⟩,⟨.blk [.v (.string nm),.v (.int .i64 a),.v (.int .i64 b),.v (.int .i64 c)],true⟩])))] Try.f120 [.one (.obj 0),.agg [.v (.string nm),.v (.int .i64 a),.v (.int .i64 b),.v (.int .i64 c)]] [⟨.us (.wr s),true⟩]).al [])=some qs∧∀ q∈qs,q:=
 ⟨[(0:Int)≤IntKind.u64.wrap c∧IntKind.u64.wrap c<(18446744073709551616:Int),(((s.put (IntKind.u64.wrap (↑nm.size:Int)) (↑5:Int)).put (IntKind.u64.wrap a) (↑6:Int)).put (IntKind.u64.wrap b) (↑31:Int)).n≤(500000000:Nat),(0:Int)≤IntKind.u64.wrap b∧IntKind.u64.wrap b<(18446744073709551616:Int),((s.put (IntKind.u64.wrap (↑nm.size:Int)) (↑5:Int)).put (IntKind.u64.wrap a) (↑6:Int)).n≤(500000000:Nat),(0:Int)≤IntKind.u64.wrap a∧IntKind.u64.wrap a<(18446744073709551616:Int),(s.put (IntKind.u64.wrap (↑nm.size:Int)) (↑5:Int)).n≤(500000000:Nat),(0:Int)≤IntKind.u64.wrap (↑nm.size:Int)∧IntKind.u64.wrap (↑nm.size:Int)<(18446744073709551616:Int),s.n≤(500000000:Nat),(Th.wr ((((s.put (IntKind.u64.wrap (nm.size:Int)) 5).put (IntKind.u64.wrap a) 6).put (IntKind.u64.wrap b) 31).put (IntKind.u64.wrap c) 2):Td)=Th.wr s1,Value.string nm=Value.string nm,Value.int IntKind.i64 a=Value.int IntKind.i64 a,Value.int IntKind.i64 b=Value.int IntKind.i64 b,Value.int IntKind.i64 c=Value.int IntKind.i64 c,Value.int IntKind.i64 (Int.ofNat 0)=Value.int IntKind.i64 (Int.ofNat (0:Nat)),(Th.wr (putN s1 nm 16):Td)=Th.wr s2],by kernel_rfl,(by refine mcons ?_ (mcons ?_ (mcons ?_ (mcons ?_ (mcons ?_ (mcons ?_ (mcons ?_ (mcons ?_ (mcons ?_ (mcons ?_ (mcons ?_ (mcons ?_ (mcons ?_ (mcons ?_ (mcons ?_ mnil))))))))))))))<;>first|(exact congrArg Th.wr h0)|(exact congrArg Th.wr h1)|exact h0|exact h1|exact h2|exact h3|exact h4|exact h5|exact h6|exact h7|exact h8|exact h9|rfl|trivial)⟩
theorem u64r (x:Int):0≤IntKind.u64.wrap x∧IntKind.u64.wrap x<18446744073709551616:=by
 show 0≤x % 18446744073709551616∧x % 18446744073709551616<18446744073709551616
 omega
def putW (s:WS) (nm:ByteArray) (a b c:Int):WS:=putN ((((s.put (IntKind.u64.wrap (nm.size:Int)) 5).put (IntKind.u64.wrap a) 6).put (IntKind.u64.wrap b) 31).put (IntKind.u64.wrap c) 2) nm 16
theorem putW_n (s:WS) (nm:ByteArray) (a b c:Int):(putW s nm a b c).n=s.n+1280:=by
 unfold putW
 rw [putN_n];rfl
def C_dput:Ctr Td:=fun us sub=>match us,sub with
 |[.one (.obj 0),.agg [.v (.string nm),.v (.int .i64 a),.v (.int .i64 b),.v (.int .i64 c)]],[⟨.us (.wr s),true⟩]=>some ([s.n≤300000000],.tup [],[⟨.us (.wr (putW s nm a b c)),true⟩,⟨.dead,true⟩])
 |_,_=>none
set_option maxRecDepth 100000 in
theorem C_dput_ok:CtrOk Try.prog Id' 120 C_dput:=by
 intro us sub ps x sm h hp w e vs hM ha
 unfold C_dput at h
 split at h
 ·rename_i nm a b c s
  simp only [Option.some.injEq,Prod.mk.injEq] at h
  obtain ⟨rfl,rfl,rfl⟩:=h
  have hs:s.n≤300000000:=hp _ (List.mem_cons_self ..)
  exact ctr_way (I:=Id') (fun (W0:World) (G:Nat→Prop)=>SyOk.mk2 Try.mixed dkHo_ok (FnsR.cons (F_putP_ok (J:=dkI) (hx:=hardDk)) (FnsR.nil)) EqsOk.nil) rfl Try.func120 (by kernel_rfl) (fun _ _=>LpsOk.cons (by kernel_rfl) (dput_lp _ nm a b c (by show s.n+64+64+64+64≤_;omega) _ rfl) (LpsOk.nil _)) (cs:=[]) (by kernel_rfl) (dput_w0 s _ (putW s nm a b c) nm a b c rfl rfl (u64r _) (u64r _) (u64r _) (u64r _) (by omega) (by show s.n+64≤_;omega) (by show s.n+64+64≤_;omega) (by show s.n+64+64+64≤_;omega)) w e vs hM ha
 ·cases h
end Go.Proofs.Ytdenmoiaiemokaa
set_option linter.unusedVariables false
set_option linter.unusedSimpArgs false
namespace Go.Proofs.Ytdenmoiaiemokaa
open Go.RowKit
def putR (s:WS) (r:Rw):WS:=putW s (r.ss.getD 0 ⟨#[]⟩) (r.is.getD 0 0) (r.is.getD 1 0) (r.is.getD 2 0)
def putsW (s:WS) (Y:List Rw):Nat→WS
 |0=>s
 |k+1=>putR (putsW s Y k) (Y.getD k Rw.zero)
theorem putsW_n (s:WS) (Y:List Rw):∀ k,(putsW s Y k).n=s.n+1280 * k
 |0=>rfl
 |k+1=>by show (putW _ _ _ _ _).n=_;rw [putW_n,putsW_n s Y k];omega
structure PutIs (s:WS) (nm:ByteArray) (a b c:Int) (s2:WS):Prop where
 h:putW s nm a b c=s2
def C_dputY (s2:WS):Ctr Td:=fun us sub=>match us,sub with
 |[.one (.obj 0),.agg [.v (.string nm),.v (.int .i64 a),.v (.int .i64 b),.v (.int .i64 c)]],[⟨.us (.wr s),true⟩]=>some ([s.n≤300000000,PutIs s nm a b c s2],.tup [],[⟨.us (.wr s2),true⟩,⟨.dead,true⟩])
 |_,_=>none
theorem C_dputY_ok (s2:WS):CtrOk Try.prog Id' 120 (C_dputY s2):=by
 intro us sub ps x sm h hp w e vs hM ha
 unfold C_dputY at h
 split at h
 ·rename_i nm a b c s
  simp only [Option.some.injEq,Prod.mk.injEq] at h
  obtain ⟨rfl,rfl,rfl⟩:=h
  have h0:s.n≤300000000:=hp _ (List.mem_cons_self ..)
  have h1:putW s nm a b c=s2:=(hp _ (List.mem_cons_of_mem _ (List.mem_cons_self ..)):PutIs s nm a b c s2).h
  subst h1
  exact C_dput_ok _ _ _ _ _ rfl (fun p hp'=>by rw [List.mem_singleton.1 hp'];exact h0) w e vs hM ha
 ·cases h
set_option maxRecDepth 100000 in
theorem dbi_n (R X Y:List Rw) (O:List (List UInt8)) (s s2:WS) (i i2:Int) (k:Nat) (f:Nat→Value) (h0:decide (i<(Y.length:Int))=true) (h1:IntKind.i64.wrap (i+1)=i2) (h2:0≤i∧i.toNat<Y.length) (h3:s.n≤300000000) (h4:PutIs s ((Y.getD i.toNat Rw.zero).ss.getD 0 ⟨#[]⟩) ((Y.getD i.toNat Rw.zero).is.getD 0 0) ((Y.getD i.toNat Rw.zero).is.getD 1 0) ((Y.getD i.toNat Rw.zero).is.getD 2 0) s2):∃ qs,alN Id' 5 [(34,.c (.one (.v (.int .i64 i2))))] [⟨.us (.ext (.vw [true,false,false,false] R)),false⟩,⟨.us (.ext (.vw [true,false,false,false] X)),false⟩,⟨.us (.ext (.tab (.bs O))),true⟩,⟨.us (.wr s2),true⟩,⟨.us (.ext (.vw [true,false,false,false] Y)),false⟩] ((symC (⟨Try.prog,[(120,ctrF Id' (C_dputY s2) hardD)],[],dkHo,Id'.one,60⟩:Sy Td) [] 59 (hdC (loopsC (bodyOf Try.f58)) 1) ⟨[(34,.c (.one (.v (.int .i64 i))))]++anyB' (writesC (hdC (loopsC (bodyOf Try.f58)) 1)) ([(6,.c (.one (.obj 3))),(32,.c (.one (.obj 4))),(33,.c (.one (.v (.int .i64 (Y.length:Int)))))]++tabV f 59),[⟨.us (.ext (.vw [true,false,false,false] R)),false⟩,⟨.us (.ext (.vw [true,false,false,false] X)),false⟩,⟨.us (.ext (.tab (.bs O))),true⟩,⟨.us (.wr s),true⟩,⟨.us (.ext (.vw [true,false,false,false] Y)),false⟩],0⟩).al [true])=some qs∧∀ q∈qs,q:=
 ⟨[decide (i<(↑Y.length:Int))=true,(0:Int)≤i∧i.toNat<Y.length,s.n≤(300000000:Nat),PutIs s ((Y.getD i.toNat Rw.zero).ss.getD (0:Nat) (ByteArray.mk #[])) ((Y.getD i.toNat Rw.zero).is.getD (0:Nat) (0:Int)) ((Y.getD i.toNat Rw.zero).is.getD ((0:Nat)+(1:Nat)) (0:Int)) ((Y.getD i.toNat Rw.zero).is.getD ((0:Nat)+(1:Nat)+(1:Nat)) (0:Int)) s2,Th.ext (Dk.vw [true,false,false,false] R)=Th.ext (Dk.vw [true,false,false,false] R),Th.ext (Dk.vw [true,false,false,false] X)=Th.ext (Dk.vw [true,false,false,false] X),Th.ext (Dk.tab (TB.bs O))=Th.ext (Dk.tab (TB.bs O)),(Th.wr s2:Td)=Th.wr s2,Th.ext (Dk.vw [true,false,false,false] Y)=Th.ext (Dk.vw [true,false,false,false] Y),Value.int IntKind.i64 (IntKind.i64.wrap (i+(1:Int)))=Value.int IntKind.i64 i2],by kernel_rfl,(by refine mcons ?_ (mcons ?_ (mcons ?_ (mcons ?_ (mcons ?_ (mcons ?_ (mcons ?_ (mcons ?_ (mcons ?_ (mcons ?_ mnil)))))))))<;>first|rfl|exact h0|exact h1|exact h2|exact h3|exact h4|trivial|(exact congrArg _ h1))⟩
set_option maxRecDepth 100000 in
theorem dbi_x (R X Y:List Rw) (O:List (List UInt8)) (s s2:WS) (i i2:Int) (k:Nat) (f:Nat→Value) (h0:decide (i<(Y.length:Int))=false) (h1:s=s2):∃ qs,alX Id' 5 3 [] [⟨.us (.ext (.vw [true,false,false,false] R)),false⟩,⟨.us (.ext (.vw [true,false,false,false] X)),false⟩,⟨.us (.ext (.tab (.bs O))),true⟩,⟨.us (.wr s2),true⟩,⟨.us (.ext (.vw [true,false,false,false] Y)),false⟩] ((symC (⟨Try.prog,[(120,ctrF Id' (C_dputY s) hardD)],[],dkHo,Id'.one,60⟩:Sy Td) [] 59 (hdC (loopsC (bodyOf Try.f58)) 1) ⟨[(34,.c (.one (.v (.int .i64 i))))]++anyB' (writesC (hdC (loopsC (bodyOf Try.f58)) 1)) ([(6,.c (.one (.obj 3))),(32,.c (.one (.obj 4))),(33,.c (.one (.v (.int .i64 (Y.length:Int)))))]++tabV f 59),[⟨.us (.ext (.vw [true,false,false,false] R)),false⟩,⟨.us (.ext (.vw [true,false,false,false] X)),false⟩,⟨.us (.ext (.tab (.bs O))),true⟩,⟨.us (.wr s),true⟩,⟨.us (.ext (.vw [true,false,false,false] Y)),false⟩],0⟩).al [false])=some qs∧∀ q∈qs,q:=
 ⟨[decide (i<(↑Y.length:Int))=false,Th.ext (Dk.vw [true,false,false,false] R)=Th.ext (Dk.vw [true,false,false,false] R),Th.ext (Dk.vw [true,false,false,false] X)=Th.ext (Dk.vw [true,false,false,false] X),Th.ext (Dk.tab (TB.bs O))=Th.ext (Dk.tab (TB.bs O)),(Th.wr s:Td)=Th.wr s2,Th.ext (Dk.vw [true,false,false,false] Y)=Th.ext (Dk.vw [true,false,false,false] Y)],by kernel_rfl,(by refine mcons ?_ (mcons ?_ (mcons ?_ (mcons ?_ (mcons ?_ (mcons ?_ mnil)))))<;>first|rfl|exact h0|exact h1|trivial|(exact congrArg _ h1))⟩
set_option maxRecDepth 100000 in
theorem dbi_lp (R X Y:List Rw) (O:List (List UInt8)) (s:WS) (hY:Y.length≤100000) (hs:s.n≤100000000) {W0:World} {G:Nat→Prop} (S0:Sy Td) (hS0:S0.P=Try.prog):LoopSound S0 Id' W0 G 59 (hdC (loopsC (bodyOf Try.f58)) 1) (lpG Id' 59 (hdC (loopsC (bodyOf Try.f58)) 1) 5 [(34,.c (.one (.v (.int .i64 ((0:Nat):Int)))))] [(6,.c (.one (.obj 3))),(32,.c (.one (.obj 4))),(33,.c (.one (.v (.int .i64 (Y.length:Int)))))] [⟨.us (.ext (.vw [true,false,false,false] R)),false⟩,⟨.us (.ext (.vw [true,false,false,false] X)),false⟩,⟨.us (.ext (.tab (.bs O))),true⟩,⟨.us (.wr (putsW s Y 0)),true⟩,⟨.us (.ext (.vw [true,false,false,false] Y)),false⟩] (.leaf (.exit 3) [] [⟨.us (.ext (.vw [true,false,false,false] R)),false⟩,⟨.us (.ext (.vw [true,false,false,false] X)),false⟩,⟨.us (.ext (.tab (.bs O))),true⟩,⟨.us (.wr (putsW s Y Y.length)),true⟩,⟨.us (.ext (.vw [true,false,false,false] Y)),false⟩])):=by
 refine lp_sound (V:=fun k=>[(34,.c (.one (.v (.int .i64 (k:Int)))))]) (M:=(fun k=>[⟨.us (.ext (.vw [true,false,false,false] R)),false⟩,⟨.us (.ext (.vw [true,false,false,false] X)),false⟩,⟨.us (.ext (.tab (.bs O))),true⟩,⟨.us (.wr (putsW s Y k)),true⟩,⟨.us (.ext (.vw [true,false,false,false] Y)),false⟩]:Nat→Mem Td)) (N:=Y.length) (Ux:=fun k x=>match x with|.exit 3=>some ([],([⟨.us (.ext (.vw [true,false,false,false] R)),false⟩,⟨.us (.ext (.vw [true,false,false,false] X)),false⟩,⟨.us (.ext (.tab (.bs O))),true⟩,⟨.us (.wr (putsW s Y Y.length)),true⟩,⟨.us (.ext (.vw [true,false,false,false] Y)),false⟩]:Mem Td))|_=>none) (X:=fun _ _=>True) (J:=fun k=>k≤Y.length) (fun k=>by kernel_rfl) (Nat.zero_le _) (fun k hk hJ f=>?_) (fun K hK k x U hk hU hX=>?_)
 ·rw [hS0]
  cases hT:decide ((k:Int)<(Y.length:Int)) with
  |false=>
   have hke:k=Y.length:=by have:=of_decide_eq_false hT;omega
   exact rnd_xD (⟨Try.prog,[(120,ctrF Id' (C_dputY (putsW s Y k)) hardD)],[],dkHo,Id'.one,60⟩:Sy Td) rfl ((fun (W0:World) (G:Nat→Prop)=>SyOk.mk2 Try.mixed dkHo_ok (FnsR.cons ((ctrF_ok Try.call120 (C_dputY_ok (putsW s Y k)))) (FnsR.nil)) EqsOk.nil) W0 G) (dbi_x R X Y O (putsW s Y k) (putsW s Y Y.length) (k:Int) ((k+1:Nat):Int) k f hT (by rw [hke])) rfl  trivial
  |true=>
   have hk1:=of_decide_eq_true hT
   have hn:=putsW_n s Y k
   have hW:IntKind.i64.wrap ((k:Int)+1)=((k+1:Nat):Int):=by rw [IntWalk.i64_in _ (by omega)];omega
   exact rnd_nD (⟨Try.prog,[(120,ctrF Id' (C_dputY (putsW s Y (k+1))) hardD)],[],dkHo,Id'.one,60⟩:Sy Td) rfl ((fun (W0:World) (G:Nat→Prop)=>SyOk.mk2 Try.mixed dkHo_ok (FnsR.cons ((ctrF_ok Try.call120 (C_dputY_ok (putsW s Y (k+1))))) (FnsR.nil)) EqsOk.nil) W0 G) (dbi_n R X Y O (putsW s Y k) (putsW s Y (k+1)) (k:Int) ((k+1:Nat):Int) k f hT hW (by omega) (by omega) ⟨by rw [Int.toNat_natCast];rfl⟩) rfl  rfl (by omega) (by omega)
 ·revert hU
  match x with
  |.normal=>intro hU;cases hU
  |.ret=>intro hU;cases hU
  |.exit n=>
   intro hU
   by_cases h:n=3
   ·subst h;simp only [Option.some.injEq] at hU;subst hU;exact hK
   ·exfalso;split at hU
    ·rename_i he;cases he;exact h rfl
    ·cases hU
end Go.Proofs.Ytdenmoiaiemokaa
set_option linter.unusedVariables false
set_option linter.unusedSimpArgs false
namespace Go.Proofs.Ytdenmoiaiemokaa
open Go.RowKit
def m5 (X:List Rw):Int:=if (5:Int)<(X.length:Int) then (5:Int) else (X.length:Int)
def blkP (Y:List Rw):List UInt8:=(putsW .new Y Y.length).out++List.replicate (IntKind.i64.wrap ((128:Int) - ((putsW .new Y Y.length).out.length:Int))).toNat 0
set_option maxRecDepth 100000 in
theorem dbo_n (R X X2 Y:List Rw) (O O2:List (List UInt8)) (k:Nat) (f:Nat→Value) (h0:decide ((X.length:Int)>0)=true) (h1:(0:Int)≤(0:Int)∧(0:Int)≤m5 X∧m5 X≤(X.length:Int)) (h2:((List.take ((m5 X).toNat - Int.toNat 0) (List.drop (Int.toNat 0) X)).length:Int)=(Y.length:Int)) (h3:List.take ((m5 X).toNat - Int.toNat 0) (List.drop (Int.toNat 0) X)=Y) (h4:List.take ((X.length:Int).toNat - (m5 X).toNat) (List.drop (m5 X).toNat X)=X2) (h5:O++[blkP Y]=O2) (h6:(putsW WS.new Y Y.length).n≤500000000) (h7:(TB.bs O).n+(TB.bs [blkP Y]).n≤100000) (h8:0≤IntKind.i64.wrap ((128:Int) - ((putsW WS.new Y Y.length).out.length:Int))) (h9:(putsW WS.new Y Y.length).out.length+(IntKind.i64.wrap ((128:Int) - ((putsW WS.new Y Y.length).out.length:Int))).toNat≤1000000) (h10:(0:Int)≤m5 X∧m5 X≤(X.length:Int)∧(X.length:Int)≤(X.length:Int)):∃ qs,alN Id' 1 [(0,.c (.one (.obj 1))),(4,.c (.one (.obj 2)))] [⟨.us (.ext (.vw [true,false,false,false] R)),false⟩,⟨.us (.ext (.vw [true,false,false,false] X2)),false⟩,⟨.us (.ext (.tab (.bs O2))),true⟩] ((symC (⟨Try.prog,[F_new (ξ:=Dk) (hx:=hardDk),F_doneP (ξ:=Dk) (hx:=hardDk)],[],dkHo,Id'.one,60⟩:Sy Td) [(10,(lpG Id' 59 (hdC (loopsC (bodyOf Try.f58)) 1) 5 [(34,.c (.one (.v (.int .i64 ((0:Nat):Int)))))] [(6,.c (.one (.obj 3))),(32,.c (.one (.obj 4))),(33,.c (.one (.v (.int .i64 (Y.length:Int)))))] [⟨.us (.ext (.vw [true,false,false,false] R)),false⟩,⟨.us (.ext (.vw [true,false,false,false] X)),false⟩,⟨.us (.ext (.tab (.bs O))),true⟩,⟨.us (.wr (putsW .new Y 0)),true⟩,⟨.us (.ext (.vw [true,false,false,false] Y)),false⟩] (.leaf (.exit 3) [] [⟨.us (.ext (.vw [true,false,false,false] R)),false⟩,⟨.us (.ext (.vw [true,false,false,false] X)),false⟩,⟨.us (.ext (.tab (.bs O))),true⟩,⟨.us (.wr (putsW .new Y Y.length)),true⟩,⟨.us (.ext (.vw [true,false,false,false] Y)),false⟩])))] 59 (hdC (loopsC (bodyOf Try.f58)) 0) ⟨[(0,.c (.one (.obj 1))),(4,.c (.one (.obj 2)))]++anyB' (writesC (hdC (loopsC (bodyOf Try.f58)) 0)) ([]++tabV f 59),[⟨.us (.ext (.vw [true,false,false,false] R)),false⟩,⟨.us (.ext (.vw [true,false,false,false] X)),false⟩,⟨.us (.ext (.tab (.bs O))),true⟩],0⟩).al [true])=some qs∧∀ q∈qs,q:=
 ⟨[decide ((↑X.length:Int)>(0:Int))=true,(0:Int)≤(0:Int)∧((0:Int)≤if (5:Int)<(↑X.length:Int) then (5:Int) else (↑X.length:Int))∧(if (5:Int)<(↑X.length:Int) then (5:Int) else (↑X.length:Int))≤(↑X.length:Int),Value.int IntKind.i64 (↑(List.take ((if (5:Int)<(↑X.length:Int) then (5:Int) else (↑X.length:Int)).toNat - Int.toNat (0:Int)) (List.drop (Int.toNat (0:Int)) X)).length:Int)=Value.int IntKind.i64 (↑Y.length:Int),Th.ext (Dk.vw [true,false,false,false] R)=Th.ext (Dk.vw [true,false,false,false] R),Th.ext (Dk.vw [true,false,false,false] X)=Th.ext (Dk.vw [true,false,false,false] X),Th.ext (Dk.tab (TB.bs O))=Th.ext (Dk.tab (TB.bs O)),(Th.wr .new:Td)=Th.wr .new,(Th.ext (Dk.vw [true,false,false,false] (List.take ((m5 X).toNat - Int.toNat 0) (List.drop (Int.toNat 0) X))):Td)=Th.ext (Dk.vw [true,false,false,false] Y),Value.int IntKind.i64 (Int.ofNat 0)=Value.int IntKind.i64 (Int.ofNat (0:Nat)),(putsW WS.new Y Y.length).n≤(500000000:Nat),(TB.bs O).n+(TB.bs [(putsW WS.new Y Y.length).out++List.replicate (IntKind.i64.wrap ((128:Int) - (↑(putsW WS.new Y Y.length).out.length:Int))).toNat (0:UInt8)]).n≤(100000:Nat),(0:Int)≤IntKind.i64.wrap ((128:Int) - (↑(putsW WS.new Y Y.length).out.length:Int)),(putsW WS.new Y Y.length).out.length+(IntKind.i64.wrap ((128:Int) - (↑(putsW WS.new Y Y.length).out.length:Int))).toNat≤(1000000:Nat),((0:Int)≤if (5:Int)<(↑X.length:Int) then (5:Int) else (↑X.length:Int))∧(if (5:Int)<(↑X.length:Int) then (5:Int) else (↑X.length:Int))≤(↑X.length:Int)∧(↑X.length:Int)≤(↑X.length:Int),Th.ext (Dk.vw [true,false,false,false] R)=Th.ext (Dk.vw [true,false,false,false] R),(Th.ext (Dk.vw [true,false,false,false] (List.take ((X.length:Int).toNat - (m5 X).toNat) (List.drop (m5 X).toNat X))):Td)=Th.ext (Dk.vw [true,false,false,false] X2),(Th.ext (Dk.tab (TB.bs (O++[blkP Y]))):Td)=Th.ext (Dk.tab (TB.bs O2))],by kernel_rfl,(by refine mcons ?_ (mcons ?_ (mcons ?_ (mcons ?_ (mcons ?_ (mcons ?_ (mcons ?_ (mcons ?_ (mcons ?_ (mcons ?_ (mcons ?_ (mcons ?_ (mcons ?_ (mcons ?_ (mcons ?_ (mcons ?_ (mcons ?_ mnil))))))))))))))))<;>first|(exact congrArg (fun x=>(Th.ext (Dk.vw [true,false,false,false] x):Td)) h3)|(exact congrArg (fun x=>(Th.ext (Dk.vw [true,false,false,false] x):Td)) h4)|(exact congrArg (fun x=>(Th.ext (Dk.tab (TB.bs x)):Td)) h5)|(exact congrArg _ h2)|rfl|exact h0|exact h1|exact h2|exact h3|exact h4|exact h5|exact h6|exact h7|exact h8|exact h9|exact h10|trivial|(exact congrArg _ h2))⟩
set_option maxRecDepth 100000 in
theorem dbo_x (R X X2 Y:List Rw) (O O2:List (List UInt8)) (k:Nat) (f:Nat→Value) (h0:decide ((X.length:Int)>0)=false) (h1:X=X2) (h2:O=O2):∃ qs,alX Id' 1 1 [(4,.c (.one (.obj 2)))] [⟨.us (.ext (.vw [true,false,false,false] R)),false⟩,⟨.us (.ext (.vw [true,false,false,false] X2)),false⟩,⟨.us (.ext (.tab (.bs O2))),true⟩] ((symC (⟨Try.prog,[F_new (ξ:=Dk) (hx:=hardDk),F_doneP (ξ:=Dk) (hx:=hardDk)],[],dkHo,Id'.one,60⟩:Sy Td) [(10,(lpG Id' 59 (hdC (loopsC (bodyOf Try.f58)) 1) 5 [(34,.c (.one (.v (.int .i64 ((0:Nat):Int)))))] [(6,.c (.one (.obj 3))),(32,.c (.one (.obj 4))),(33,.c (.one (.v (.int .i64 (Y.length:Int)))))] [⟨.us (.ext (.vw [true,false,false,false] R)),false⟩,⟨.us (.ext (.vw [true,false,false,false] X)),false⟩,⟨.us (.ext (.tab (.bs O))),true⟩,⟨.us (.wr (putsW .new Y 0)),true⟩,⟨.us (.ext (.vw [true,false,false,false] Y)),false⟩] (.leaf (.exit 3) [] [⟨.us (.ext (.vw [true,false,false,false] R)),false⟩,⟨.us (.ext (.vw [true,false,false,false] X)),false⟩,⟨.us (.ext (.tab (.bs O))),true⟩,⟨.us (.wr (putsW .new Y Y.length)),true⟩,⟨.us (.ext (.vw [true,false,false,false] Y)),false⟩])))] 59 (hdC (loopsC (bodyOf Try.f58)) 0) ⟨[(0,.c (.one (.obj 1))),(4,.c (.one (.obj 2)))]++anyB' (writesC (hdC (loopsC (bodyOf Try.f58)) 0)) ([]++tabV f 59),[⟨.us (.ext (.vw [true,false,false,false] R)),false⟩,⟨.us (.ext (.vw [true,false,false,false] X)),false⟩,⟨.us (.ext (.tab (.bs O))),true⟩],0⟩).al [false])=some qs∧∀ q∈qs,q:=
 ⟨[decide ((↑X.length:Int)>(0:Int))=false,Th.ext (Dk.vw [true,false,false,false] R)=Th.ext (Dk.vw [true,false,false,false] R),Th.ext (Dk.vw [true,false,false,false] X)=Th.ext (Dk.vw [true,false,false,false] X2),Th.ext (Dk.tab (TB.bs O))=Th.ext (Dk.tab (TB.bs O2))],by kernel_rfl,(by refine mcons ?_ (mcons ?_ (mcons ?_ (mcons ?_ mnil)))<;>first|(exact congrArg (fun x=>(Th.ext (Dk.vw [true,false,false,false] x):Td)) h1)|(exact congrArg (fun x=>(Th.ext (Dk.tab (TB.bs x)):Td)) h2)|rfl|exact h0|exact h1|exact h2|trivial)⟩
end Go.Proofs.Ytdenmoiaiemokaa
set_option linter.unusedVariables false
namespace Go.Proofs.Ytdenmoiaiemokaa
open Go.RowKit
theorem wput_len (s:WS) (x n:Int):(s.put x n).bl.length≤s.bl.length+n.toNat:=by
 simp only [WS.put,putL]
 split
 ·rw [List.length_append,bitsOf_length];exact Nat.le_refl _
 ·omega
theorem putN_len (s:WS) (nm:ByteArray):∀ k,(putN s nm k).bl.length≤s.bl.length+8 * k
 |0=>Nat.le_refl _
 |k+1=>by
  have:=putN_len s nm k
  have h:=wput_len (putN s nm k) (chI nm (k:Int)) 8
  show ((putN s nm k).put (chI nm (k:Int)) 8).bl.length≤_
  have:(8:Int).toNat=8:=rfl
  omega
theorem putW_len (s:WS) (nm:ByteArray) (a b c:Int):(putW s nm a b c).bl.length≤s.bl.length+172:=by
 unfold putW
 have h0:=putN_len ((((s.put (IntKind.u64.wrap (nm.size:Int)) 5).put (IntKind.u64.wrap a) 6).put (IntKind.u64.wrap b) 31).put (IntKind.u64.wrap c) 2) nm 16
 have h1:=wput_len s (IntKind.u64.wrap (nm.size:Int)) 5
 have h2:=wput_len (s.put (IntKind.u64.wrap (nm.size:Int)) 5) (IntKind.u64.wrap a) 6
 have h3:=wput_len ((s.put (IntKind.u64.wrap (nm.size:Int)) 5).put (IntKind.u64.wrap a) 6) (IntKind.u64.wrap b) 31
 have h4:=wput_len (((s.put (IntKind.u64.wrap (nm.size:Int)) 5).put (IntKind.u64.wrap a) 6).put (IntKind.u64.wrap b) 31) (IntKind.u64.wrap c) 2
 have e5:(5:Int).toNat=5:=rfl
 have e6:(6:Int).toNat=6:=rfl
 have e31:(31:Int).toNat=31:=rfl
 have e2:(2:Int).toNat=2:=rfl
 omega
theorem putsW_len (s:WS) (Y:List Rw):∀ k,(putsW s Y k).bl.length≤s.bl.length+172 * k
 |0=>Nat.le_refl _
 |k+1=>by
  have:=putsW_len s Y k
  have h:=putW_len (putsW s Y k) ((Y.getD k Rw.zero).ss.getD 0 ⟨#[]⟩) ((Y.getD k Rw.zero).is.getD 0 0) ((Y.getD k Rw.zero).is.getD 1 0) ((Y.getD k Rw.zero).is.getD 2 0)
  show (putR (putsW s Y k) (Y.getD k Rw.zero)).bl.length≤_
  unfold putR
  omega
theorem out_len (Y:List Rw) (h:Y.length≤5):(putsW .new Y Y.length).out.length≤128:=by
 have:=putsW_len .new Y Y.length
 have h0:(WS.new).bl.length=0:=rfl
 unfold WS.out
 split
 ·rw [packed_length];omega
 ·exact Nat.zero_le _
theorem w128 {Y:List Rw} (h:Y.length≤5):IntKind.i64.wrap ((128:Int) - ((putsW WS.new Y Y.length).out.length:Int))=(128:Int) - ((putsW WS.new Y Y.length).out.length:Int):=by
 have:=out_len Y h
 exact IntWalk.i64_in _ (by omega)
theorem m5_nat (X:List Rw):(m5 X).toNat=min 5 X.length:=by unfold m5;split<;>omega
theorem m5_le (X:List Rw):0≤m5 X∧m5 X≤(X.length:Int):=by unfold m5;split<;>omega
theorem take_m5 (X:List Rw):List.take ((m5 X).toNat - Int.toNat 0) (List.drop (Int.toNat 0) X)=X.take 5:=by
 rw [m5_nat]
 show List.take (min 5 X.length - 0) (List.drop 0 X)=X.take 5
 rw [List.drop_zero,Nat.sub_zero,List.take_eq_take_iff];omega
theorem drop_m5 (X:List Rw):List.take ((X.length:Int).toNat - (m5 X).toNat) (List.drop (m5 X).toNat X)=X.drop 5:=by
 rw [m5_nat,Int.toNat_natCast,List.take_of_length_le (by rw [List.length_drop];omega)]
 rcases Nat.le_total 5 X.length with h|h
 ·rw [Nat.min_eq_left h]
 ·rw [Nat.min_eq_right h,List.drop_of_length_le h,List.drop_length]
def blksP (R:List Rw):Nat→List (List UInt8)
 |0=>[]
 |k+1=>blksP R k++[blkP ((R.drop (5 * k)).take 5)]
def nbR (R:List Rw):Nat:=(R.length+4) / 5
theorem blksP_len (R:List Rw):∀ k,(blksP R k).length=k
 |0=>rfl
 |k+1=>by simp [blksP,blksP_len R k]
end Go.Proofs.Ytdenmoiaiemokaa
set_option linter.unusedVariables false
set_option linter.unusedSimpArgs false
namespace Go.Proofs.Ytdenmoiaiemokaa
open Go.RowKit
set_option maxRecDepth 100000 in
theorem dbo_lp (R:List Rw) (hR:R.length≤1000) {W0:World} {G:Nat→Prop} (S0:Sy Td) (hS0:S0.P=Try.prog):LoopSound S0 Id' W0 G 59 (hdC (loopsC (bodyOf Try.f58)) 0) (lpG Id' 59 (hdC (loopsC (bodyOf Try.f58)) 0) 1 [(0,.c (.one (.obj 1))),(4,.c (.one (.obj 2)))] [] [⟨.us (.ext (.vw [true,false,false,false] R)),false⟩,⟨.us (.ext (.vw [true,false,false,false] (R.drop (5 * 0)))),false⟩,⟨.us (.ext (.tab (.bs (blksP R 0)))),true⟩] (.leaf (.exit 1) [(4,.c (.one (.obj 2)))] [⟨.us (.ext (.vw [true,false,false,false] R)),false⟩,⟨.us (.ext (.vw [true,false,false,false] (R.drop (5 * nbR R)))),false⟩,⟨.us (.ext (.tab (.bs (blksP R (nbR R))))),true⟩])):=by
 refine lp_sound (V:=fun k=>[(0,.c (.one (.obj 1))),(4,.c (.one (.obj 2)))]) (M:=(fun k=>[⟨.us (.ext (.vw [true,false,false,false] R)),false⟩,⟨.us (.ext (.vw [true,false,false,false] (R.drop (5 * k)))),false⟩,⟨.us (.ext (.tab (.bs (blksP R k)))),true⟩]:Nat→Mem Td)) (N:=nbR R) (Ux:=fun k x=>match x with|.exit 1=>some ([(4,.c (.one (.obj 2)))],([⟨.us (.ext (.vw [true,false,false,false] R)),false⟩,⟨.us (.ext (.vw [true,false,false,false] (R.drop (5 * nbR R)))),false⟩,⟨.us (.ext (.tab (.bs (blksP R (nbR R))))),true⟩]:Mem Td))|_=>none) (X:=fun _ _=>True) (J:=fun k=>k≤nbR R) (fun k=>by kernel_rfl) (Nat.zero_le _) (fun k hk hJ f=>?_) (fun K hK k x U hk hU hX=>?_)
 ·rw [hS0]
  have hXl:(R.drop (5 * k)).length=R.length - 5 * k:=List.length_drop ..
  have hYl:((R.drop (5 * k)).take 5).length≤5:=List.length_take_le ..
  cases hT:decide (((R.drop (5 * k)).length:Int)>0) with
  |false=>
   have hke:k=nbR R:=by have:=of_decide_eq_false hT;unfold nbR at hJ ⊢;omega
   obtain ⟨ps,h1,h2⟩:=dbo_x R (R.drop (5 * k)) (R.drop (5 * nbR R)) ((R.drop (5 * k)).take 5) (blksP R k) (blksP R (nbR R)) k f hT (by rw [hke]) (by rw [hke])
   exact rnd_x (⟨Try.prog,[F_new (ξ:=Dk) (hx:=hardDk),F_doneP (ξ:=Dk) (hx:=hardDk)],[],dkHo,Id'.one,60⟩:Sy Td) [(10,(lpG Id' 59 (hdC (loopsC (bodyOf Try.f58)) 1) 5 [(34,.c (.one (.v (.int .i64 ((0:Nat):Int)))))] [(6,.c (.one (.obj 3))),(32,.c (.one (.obj 4))),(33,.c (.one (.v (.int .i64 (((R.drop (5 * k)).take 5).length:Int)))))] [⟨.us (.ext (.vw [true,false,false,false] R)),false⟩,⟨.us (.ext (.vw [true,false,false,false] (R.drop (5 * k)))),false⟩,⟨.us (.ext (.tab (.bs (blksP R k)))),true⟩,⟨.us (.wr (putsW .new ((R.drop (5 * k)).take 5) 0)),true⟩,⟨.us (.ext (.vw [true,false,false,false] ((R.drop (5 * k)).take 5))),false⟩] (.leaf (.exit 3) [] [⟨.us (.ext (.vw [true,false,false,false] R)),false⟩,⟨.us (.ext (.vw [true,false,false,false] (R.drop (5 * k)))),false⟩,⟨.us (.ext (.tab (.bs (blksP R k)))),true⟩,⟨.us (.wr (putsW .new ((R.drop (5 * k)).take 5) ((R.drop (5 * k)).take 5).length)),true⟩,⟨.us (.ext (.vw [true,false,false,false] ((R.drop (5 * k)).take 5))),false⟩])))] rfl ((fun (W0:World) (G:Nat→Prop)=>SyOk.mk2 Try.mixed dkHo_ok (FnsR.cons (F_new_ok (J:=dkI) (hx:=hardDk)) (FnsR.cons (F_doneP_ok (J:=dkI) (hx:=hardDk)) (FnsR.nil))) EqsOk.nil) W0 G) (LpsOk.cons (by kernel_rfl) (dbi_lp R (R.drop (5 * k)) ((R.drop (5 * k)).take 5) (blksP R k) .new (by omega) (by decide) _ rfl) (LpsOk.nil _)) (m2:=_) (fun w e h=>h) [false] 1 ps h1 h2 rfl trivial
  |true=>
   have hk1:=of_decide_eq_true hT
   have hk2:k<nbR R:=by unfold nbR at hJ ⊢;omega
   have ht:=take_m5 (R.drop (5 * k))
   have hd:=drop_m5 (R.drop (5 * k))
   have hm:=m5_le (R.drop (5 * k))
   have ho:=out_len _ hYl
   have hw:=w128 hYl
   have hbl:(blksP R k).length=k:=blksP_len R k
   have hn:(putsW WS.new ((R.drop (5 * k)).take 5) ((R.drop (5 * k)).take 5).length).n≤500000000:=by rw [putsW_n];show 0+_≤_;omega
   obtain ⟨ps,h1,h2⟩:=dbo_n R (R.drop (5 * k)) (R.drop (5 * (k+1))) ((R.drop (5 * k)).take 5) (blksP R k) (blksP R (k+1)) k f hT ⟨Int.le_refl _,hm.1,hm.2⟩ (by rw [ht]) ht (by rw [hd,List.drop_drop,Nat.mul_succ]) rfl hn (by
    show (blksP R k).length+1≤100000
    unfold nbR at hk2;omega) (by rw [hw];omega) (by rw [hw];omega) ⟨hm.1,hm.2,Int.le_refl _⟩
   exact rnd_n (⟨Try.prog,[F_new (ξ:=Dk) (hx:=hardDk),F_doneP (ξ:=Dk) (hx:=hardDk)],[],dkHo,Id'.one,60⟩:Sy Td) [(10,(lpG Id' 59 (hdC (loopsC (bodyOf Try.f58)) 1) 5 [(34,.c (.one (.v (.int .i64 ((0:Nat):Int)))))] [(6,.c (.one (.obj 3))),(32,.c (.one (.obj 4))),(33,.c (.one (.v (.int .i64 (((R.drop (5 * k)).take 5).length:Int)))))] [⟨.us (.ext (.vw [true,false,false,false] R)),false⟩,⟨.us (.ext (.vw [true,false,false,false] (R.drop (5 * k)))),false⟩,⟨.us (.ext (.tab (.bs (blksP R k)))),true⟩,⟨.us (.wr (putsW .new ((R.drop (5 * k)).take 5) 0)),true⟩,⟨.us (.ext (.vw [true,false,false,false] ((R.drop (5 * k)).take 5))),false⟩] (.leaf (.exit 3) [] [⟨.us (.ext (.vw [true,false,false,false] R)),false⟩,⟨.us (.ext (.vw [true,false,false,false] (R.drop (5 * k)))),false⟩,⟨.us (.ext (.tab (.bs (blksP R k)))),true⟩,⟨.us (.wr (putsW .new ((R.drop (5 * k)).take 5) ((R.drop (5 * k)).take 5).length)),true⟩,⟨.us (.ext (.vw [true,false,false,false] ((R.drop (5 * k)).take 5))),false⟩])))] rfl ((fun (W0:World) (G:Nat→Prop)=>SyOk.mk2 Try.mixed dkHo_ok (FnsR.cons (F_new_ok (J:=dkI) (hx:=hardDk)) (FnsR.cons (F_doneP_ok (J:=dkI) (hx:=hardDk)) (FnsR.nil))) EqsOk.nil) W0 G) (LpsOk.cons (by kernel_rfl) (dbi_lp R (R.drop (5 * k)) ((R.drop (5 * k)).take 5) (blksP R k) .new (by omega) (by decide) _ rfl) (LpsOk.nil _)) (m2:=_) (fun w e h=>h) [true] ps h1 h2 rfl rfl hk2 (by omega)
 ·revert hU
  match x with
  |.normal=>intro hU;cases hU
  |.ret=>intro hU;cases hU
  |.exit n=>
   intro hU
   by_cases h:n=1
   ·subst h;simp only [Option.some.injEq] at hU;subst hU;exact hK
   ·exfalso;split at hU
    ·rename_i he;cases he;exact h rfl
    ·cases hU
end Go.Proofs.Ytdenmoiaiemokaa
