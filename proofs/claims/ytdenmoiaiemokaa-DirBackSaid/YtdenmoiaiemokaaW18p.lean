/- W16 W17 W18. -/
import Derived.Test.YtdenmoiaiemokaaW15p
set_option linter.unusedVariables false
set_option linter.unusedSimpArgs false
namespace Go.Proofs.Ytdenmoiaiemokaa
open Go.RowKit
def chI (nm:ByteArray) (i:Int):Int:=bif decide (i<(nm.size:Int)) then (((nm.data.toList.getD i.toNat 0).toNat:Nat):Int) else 0
def putN (s:WS) (nm:ByteArray):Nat→WS
 |0=>s
 |k+1=>(putN s nm k).put (chI nm (k:Int)) 8
theorem putN_n (s:WS) (nm:ByteArray):∀ k,(putN s nm k).n=s.n+64 * k
 |0=>rfl
 |k+1=>by show (putN s nm k).n+64=_;rw [putN_n s nm k];omega
theorem u64b (x:UInt8):IntKind.u64.wrap ((x.toNat:Nat):Int)=((x.toNat:Nat):Int):=by have:=x.toNat_lt;exact u64w_id (by omega)
set_option maxRecDepth 100000 in
theorem dput_n1 (s s2:WS) (nm:ByteArray) (a b c:Int) (i i2:Int) (k:Nat) (f:Nat→Value) (h0:decide (i<(16:Int))=true) (h1:IntKind.i64.wrap (i+1)=i2) (h2:0≤i∧i.toNat<nm.size) (h3:decide (i<(nm.size:Int))=true) (h4:s.n≤500000000) (h5:s.put (IntKind.u64.wrap (((nm.data.toList.getD i.toNat 0).toNat:Nat):Int)) 8=s2) (h6:(0:Int)≤IntKind.u64.wrap (((nm.data.toList.getD i.toNat 0).toNat:Nat):Int)∧IntKind.u64.wrap (((nm.data.toList.getD i.toNat 0).toNat:Nat):Int)<(18446744073709551616:Int)):∃ qs,alN Id' 2 [(26,.c (.one (.v (.int .i64 i2))))] [⟨.us (.wr s2),true⟩,⟨.blk [.v (.string nm),.v (.int .i64 a),.v (.int .i64 b),.v (.int .i64 c)],true⟩] ((symC (⟨Try.prog,[F_putP (ξ:=Dk) (hx:=hardDk)],[],dkHo,Id'.one,60⟩:Sy Td) [] 43 (hdC (loopsC (bodyOf Try.f120)) 0) ⟨[(26,.c (.one (.v (.int .i64 i))))]++anyB' (writesC (hdC (loopsC (bodyOf Try.f120)) 0)) ([(0,.c (.one (.obj 0))),(3,.c (.one (.ptr 1 0)))]++tabV f 43),[⟨.us (.wr s),true⟩,⟨.blk [.v (.string nm),.v (.int .i64 a),.v (.int .i64 b),.v (.int .i64 c)],true⟩],0⟩).al [true,true])=some qs∧∀ q∈qs,q:=
 ⟨[decide (i<(16:Int))=true,decide (i<(↑nm.size:Int))=true,(0:Int)≤i∧i.toNat<nm.size,(0:Int)≤IntKind.u64.wrap (↑(nm.data.toList.getD i.toNat (0:UInt8)).toNat:Int)∧IntKind.u64.wrap (↑(nm.data.toList.getD i.toNat (0:UInt8)).toNat:Int)<(18446744073709551616:Int),s.n≤(500000000:Nat),(Th.wr (s.put (IntKind.u64.wrap (((nm.data.toList.getD i.toNat 0).toNat:Nat):Int)) 8):Td)=Th.wr s2,Value.string nm=Value.string nm,Value.int IntKind.i64 a=Value.int IntKind.i64 a,Value.int IntKind.i64 b=Value.int IntKind.i64 b,Value.int IntKind.i64 c=Value.int IntKind.i64 c,Value.int IntKind.i64 (IntKind.i64.wrap (i+(1:Int)))=Value.int IntKind.i64 i2],by kernel_rfl,(by refine mcons ?_ (mcons ?_ (mcons ?_ (mcons ?_ (mcons ?_ (mcons ?_ (mcons ?_ (mcons ?_ (mcons ?_ (mcons ?_ (mcons ?_ mnil))))))))))<;>first|(exact congrArg Th.wr h5)|(exact congrArg _ h1)|exact h0|exact h1|exact h2|exact h3|exact h4|exact h5|exact h6|rfl|trivial|(exact congrArg _ h1)|(exact ⟨h2,by have:=of_decide_eq_true h3;omega⟩)|(have h:=u64b (nm.data.toList.getD i.toNat 0);have h9:=(nm.data.toList.getD i.toNat 0).toNat_lt;rw [h];omega)|(exact ⟨by decide,by decide⟩)|(exact congrArg _ h5)|(exact congrArg _ h1))⟩
set_option maxRecDepth 100000 in
theorem dput_n2 (s s2:WS) (nm:ByteArray) (a b c:Int) (i i2:Int) (k:Nat) (f:Nat→Value) (h0:decide (i<(16:Int))=true) (h1:IntKind.i64.wrap (i+1)=i2) (h2:0≤i) (h3:decide (i<(nm.size:Int))=false) (h4:s.n≤500000000) (h5:s.put 0 8=s2) (h6:(0:Int)≤Int.ofNat (0:Nat)∧Int.ofNat (0:Nat)<(18446744073709551616:Int)):∃ qs,alN Id' 2 [(26,.c (.one (.v (.int .i64 i2))))] [⟨.us (.wr s2),true⟩,⟨.blk [.v (.string nm),.v (.int .i64 a),.v (.int .i64 b),.v (.int .i64 c)],true⟩] ((symC (⟨Try.prog,[F_putP (ξ:=Dk) (hx:=hardDk)],[],dkHo,Id'.one,60⟩:Sy Td) [] 43 (hdC (loopsC (bodyOf Try.f120)) 0) ⟨[(26,.c (.one (.v (.int .i64 i))))]++anyB' (writesC (hdC (loopsC (bodyOf Try.f120)) 0)) ([(0,.c (.one (.obj 0))),(3,.c (.one (.ptr 1 0)))]++tabV f 43),[⟨.us (.wr s),true⟩,⟨.blk [.v (.string nm),.v (.int .i64 a),.v (.int .i64 b),.v (.int .i64 c)],true⟩],0⟩).al [true,false])=some qs∧∀ q∈qs,q:=
 ⟨[decide (i<(16:Int))=true,decide (i<(↑nm.size:Int))=false,(0:Int)≤Int.ofNat (0:Nat)∧Int.ofNat (0:Nat)<(18446744073709551616:Int),s.n≤(500000000:Nat),(Th.wr (s.put 0 8):Td)=Th.wr s2,Value.string nm=Value.string nm,Value.int IntKind.i64 a=Value.int IntKind.i64 a,Value.int IntKind.i64 b=Value.int IntKind.i64 b,Value.int IntKind.i64 c=Value.int IntKind.i64 c,Value.int IntKind.i64 (IntKind.i64.wrap (i+(1:Int)))=Value.int IntKind.i64 i2],by kernel_rfl,(by refine mcons ?_ (mcons ?_ (mcons ?_ (mcons ?_ (mcons ?_ (mcons ?_ (mcons ?_ (mcons ?_ (mcons ?_ (mcons ?_ mnil)))))))))<;>first|(exact congrArg Th.wr h5)|(exact congrArg _ h1)|exact h0|exact h1|exact h2|exact h3|exact h4|exact h5|exact h6|rfl|trivial|(exact congrArg _ h1)|(exact ⟨h2,by have:=of_decide_eq_true h3;omega⟩)|(have h:=u64b (nm.data.toList.getD i.toNat 0);have h9:=(nm.data.toList.getD i.toNat 0).toNat_lt;rw [h];omega)|(exact ⟨by decide,by decide⟩)|(exact congrArg _ h5)|(exact congrArg _ h1))⟩
set_option maxRecDepth 100000 in
theorem dput_x (s s2:WS) (nm:ByteArray) (a b c:Int) (i i2:Int) (k:Nat) (f:Nat→Value) (h0:decide (i<(16:Int))=false) (h1:s=s2):∃ qs,alX Id' 2 0 [] [⟨.us (.wr s2),true⟩,⟨.blk [.v (.string nm),.v (.int .i64 a),.v (.int .i64 b),.v (.int .i64 c)],true⟩] ((symC (⟨Try.prog,[F_putP (ξ:=Dk) (hx:=hardDk)],[],dkHo,Id'.one,60⟩:Sy Td) [] 43 (hdC (loopsC (bodyOf Try.f120)) 0) ⟨[(26,.c (.one (.v (.int .i64 i))))]++anyB' (writesC (hdC (loopsC (bodyOf Try.f120)) 0)) ([(0,.c (.one (.obj 0))),(3,.c (.one (.ptr 1 0)))]++tabV f 43),[⟨.us (.wr s),true⟩,⟨.blk [.v (.string nm),.v (.int .i64 a),.v (.int .i64 b),.v (.int .i64 c)],true⟩],0⟩).al [false])=some qs∧∀ q∈qs,q:=
 ⟨[decide (i<(16:Int))=false,(Th.wr s:Td)=Th.wr s2,Value.string nm=Value.string nm,Value.int IntKind.i64 a=Value.int IntKind.i64 a,Value.int IntKind.i64 b=Value.int IntKind.i64 b,Value.int IntKind.i64 c=Value.int IntKind.i64 c],by kernel_rfl,(by refine mcons ?_ (mcons ?_ (mcons ?_ (mcons ?_ (mcons ?_ (mcons ?_ mnil)))))<;>first|rfl|exact h0|exact h1|rfl|trivial|(exact congrArg _ h1))⟩
set_option maxRecDepth 100000 in
theorem dput_lp (s:WS) (nm:ByteArray) (a b c:Int) (hs:s.n≤400000000) {W0:World} {G:Nat→Prop} (S0:Sy Td) (hS0:S0.P=Try.prog):LoopSound S0 Id' W0 G 43 (hdC (loopsC (bodyOf Try.f120)) 0) (lpG Id' 43 (hdC (loopsC (bodyOf Try.f120)) 0) 2 [(26,.c (.one (.v (.int .i64 ((0:Nat):Int)))))] [(0,.c (.one (.obj 0))),(3,.c (.one (.ptr 1 0)))] [⟨.us (.wr (putN s nm 0)),true⟩,⟨.blk [.v (.string nm),.v (.int .i64 a),.v (.int .i64 b),.v (.int .i64 c)],true⟩] (.leaf (.exit 0) [] [⟨.us (.wr (putN s nm 16)),true⟩,⟨.blk [.v (.string nm),.v (.int .i64 a),.v (.int .i64 b),.v (.int .i64 c)],true⟩])):=by
 refine lp_sound (V:=fun k=>[(26,.c (.one (.v (.int .i64 (k:Int)))))]) (M:=(fun k=>[⟨.us (.wr (putN s nm k)),true⟩,⟨.blk [.v (.string nm),.v (.int .i64 a),.v (.int .i64 b),.v (.int .i64 c)],true⟩]:Nat→Mem Td)) (N:=16) (Ux:=fun k x=>match x with|.exit 0=>some ([],([⟨.us (.wr (putN s nm 16)),true⟩,⟨.blk [.v (.string nm),.v (.int .i64 a),.v (.int .i64 b),.v (.int .i64 c)],true⟩]:Mem Td))|_=>none) (X:=fun _ _=>True) (J:=fun k=>True) (fun k=>by kernel_rfl) trivial (fun k hk hJ f=>?_) (fun K hK k x U hk hU hX=>?_)
 ·rw [hS0]
  have hn:=putN_n s nm k
  cases hT:decide ((k:Int)<(16:Int)) with
  |false=>
   have hke:k=16:=by have:=of_decide_eq_false hT;omega
   exact rnd_xD (⟨Try.prog,[F_putP (ξ:=Dk) (hx:=hardDk)],[],dkHo,Id'.one,60⟩:Sy Td) rfl ((fun (W0:World) (G:Nat→Prop)=>SyOk.mk2 Try.mixed dkHo_ok (FnsR.cons (F_putP_ok (J:=dkI) (hx:=hardDk)) (FnsR.nil)) EqsOk.nil) W0 G) (dput_x (putN s nm k) (putN s nm 16) nm a b c (k:Int) ((k+1:Nat):Int) k f hT (by rw [hke])) rfl  trivial
  |true=>
   have hk1:=of_decide_eq_true hT
   have hW:IntKind.i64.wrap ((k:Int)+1)=((k+1:Nat):Int):=by rw [IntWalk.i64_in _ (by omega)];omega
   cases hq:decide ((k:Int)<(nm.size:Int)) with
   |true=>
    have he:(putN s nm k).put (IntKind.u64.wrap (((nm.data.toList.getD (k:Int).toNat 0).toNat:Nat):Int)) 8=putN s nm (k+1):=by
     show _=(putN s nm k).put (chI nm (k:Int)) 8
     unfold chI;rw [u64b,hq];rfl
    exact rnd_nD (⟨Try.prog,[F_putP (ξ:=Dk) (hx:=hardDk)],[],dkHo,Id'.one,60⟩:Sy Td) rfl ((fun (W0:World) (G:Nat→Prop)=>SyOk.mk2 Try.mixed dkHo_ok (FnsR.cons (F_putP_ok (J:=dkI) (hx:=hardDk)) (FnsR.nil)) EqsOk.nil) W0 G) (dput_n1 (putN s nm k) (putN s nm (k+1)) nm a b c (k:Int) ((k+1:Nat):Int) k f hT hW ⟨by omega,by have:=of_decide_eq_true hq;omega⟩ hq (by omega) he (by rw [u64b];have:=(nm.data.toList.getD (k:Int).toNat 0).toNat_lt;omega)) rfl  rfl (by omega) trivial
   |false=>
    have he:(putN s nm k).put 0 8=putN s nm (k+1):=by
     show _=(putN s nm k).put (chI nm (k:Int)) 8
     unfold chI;rw [hq];rfl
    exact rnd_nD (⟨Try.prog,[F_putP (ξ:=Dk) (hx:=hardDk)],[],dkHo,Id'.one,60⟩:Sy Td) rfl ((fun (W0:World) (G:Nat→Prop)=>SyOk.mk2 Try.mixed dkHo_ok (FnsR.cons (F_putP_ok (J:=dkI) (hx:=hardDk)) (FnsR.nil)) EqsOk.nil) W0 G) (dput_n2 (putN s nm k) (putN s nm (k+1)) nm a b c (k:Int) ((k+1:Nat):Int) k f hT hW (by omega) hq (by omega) he ⟨by decide,by decide⟩) rfl  rfl (by omega) trivial
 ·revert hU
  match x with
  |.exit 0=>intro hU;simp only [Option.some.injEq] at hU;subst hU;exact hK
  |.normal=>intro hU;cases hU
  |.ret=>intro hU;cases hU
  |.exit (n+1)=>intro hU;cases hU
end Go.Proofs.Ytdenmoiaiemokaa
set_option linter.unusedVariables false
set_option linter.unusedSimpArgs false
namespace Go.Proofs.Ytdenmoiaiemokaa
open Go.RowKit
set_option maxRecDepth 100000 in
theorem dput_w0 (s s1 s2:WS) (nm:ByteArray) (a b c:Int) (h0:((((s.put (IntKind.u64.wrap (nm.size:Int)) 5).put (IntKind.u64.wrap a) 6).put (IntKind.u64.wrap b) 31).put (IntKind.u64.wrap c) 2)=s1) (h1:putN s1 nm 16=s2) (h2:(0:Int)≤IntKind.u64.wrap (nm.size:Int)∧IntKind.u64.wrap (nm.size:Int)<(18446744073709551616:Int)) (h3:(0:Int)≤IntKind.u64.wrap a∧IntKind.u64.wrap a<(18446744073709551616:Int)) (h4:(0:Int)≤IntKind.u64.wrap b∧IntKind.u64.wrap b<(18446744073709551616:Int)) (h5:(0:Int)≤IntKind.u64.wrap c∧IntKind.u64.wrap c<(18446744073709551616:Int)) (h6:s.n≤500000000) (h7:(s.put (IntKind.u64.wrap (nm.size:Int)) 5).n≤500000000) (h8:((s.put (IntKind.u64.wrap (nm.size:Int)) 5).put (IntKind.u64.wrap a) 6).n≤500000000) (h9:(((s.put (IntKind.u64.wrap (nm.size:Int)) 5).put (IntKind.u64.wrap a) 6).put (IntKind.u64.wrap b) 31).n≤500000000):∃ qs,wayO Id' ([⟨.us (.wr s),true⟩]:Mem Td).length [⟨.us (.wr s2),true⟩,⟨.dead,true⟩] (.tup []) ((runFn (⟨Try.prog,[F_putP (ξ:=Dk) (hx:=hardDk)],[],dkHo,Id'.one,60⟩:Sy Td) [(3,(lpG Id' 43 (hdC (loopsC (bodyOf Try.f120)) 0) 2 [(26,.c (.one (.v (.int .i64 ((0:Nat):Int)))))] [(0,.c (.one (.obj 0))),(3,.c (.one (.ptr 1 0)))] [⟨.us (.wr (putN s1 nm 0)),true⟩,⟨.blk [.v (.string nm),.v (.int .i64 a),.v (.int .i64 b),.v (.int .i64 c)],true⟩] (.leaf (.exit 0) [] [⟨.us (.wr (putN s1 nm 16)),true⟩,⟨.blk [.v (.string nm),.v (.int .i64 a),.v (.int .i64 b),.v (.int .i64 c)],true⟩])))] Try.f120 [.one (.obj 0),.agg [.v (.string nm),.v (.int .i64 a),.v (.int .i64 b),.v (.int .i64 c)]] [⟨.us (.wr s),true⟩]).al [])=some qs∧∀ q∈qs,q:=
 ⟨[(0:Int)≤IntKind.u64.wrap c∧IntKind.u64.wrap c<(18446744073709551616:Int),(((s.put (IntKind.u64.wrap (↑nm.size:Int)) (↑5:Int)).put (IntKind.u64.wrap a) (↑6:Int)).put (IntKind.u64.wrap b) (↑31:Int)).n≤(500000000:Nat),(0:Int)≤IntKind.u64.wrap b∧IntKind.u64.wrap b<(18446744073709551616:Int),((s.put (IntKind.u64.wrap (↑nm.size:Int)) (↑5:Int)).put (IntKind.u64.wrap a) (↑6:Int)).n≤(500000000:Nat),(0:Int)≤IntKind.u64.wrap a∧IntKind.u64.wrap a<(18446744073709551616:Int),(s.put (IntKind.u64.wrap (↑nm.size:Int)) (↑5:Int)).n≤(500000000:Nat),(0:Int)≤IntKind.u64.wrap (↑nm.size:Int)∧IntKind.u64.wrap (↑nm.size:Int)<(18446744073709551616:Int),s.n≤(500000000:Nat),(Th.wr ((((s.put (IntKind.u64.wrap (nm.size:Int)) 5).put (IntKind.u64.wrap a) 6).put (IntKind.u64.wrap b) 31).put (IntKind.u64.wrap c) 2):Td)=Th.wr s1,Value.string nm=Value.string nm,Value.int IntKind.i64 a=Value.int IntKind.i64 a,Value.int IntKind.i64 b=Value.int IntKind.i64 b,Value.int IntKind.i64 c=Value.int IntKind.i64 c,Value.int IntKind.i64 (Int.ofNat 0)=Value.int IntKind.i64 (Int.ofNat (0:Nat)),(Th.wr (putN s1 nm 16):Td)=Th.wr s2],by kernel_rfl,(by refine mcons ?_ (mcons ?_ (mcons ?_ (mcons ?_ (mcons ?_ (mcons ?_ (mcons ?_ (mcons ?_ (mcons ?_ (mcons ?_ (mcons ?_ (mcons ?_ (mcons ?_ (mcons ?_ (mcons ?_ mnil))))))))))))))<;>first|(exact congrArg Th.wr h0)|(exact congrArg Th.wr h1)|exact h0|exact h1|exact h2|exact h3|exact h4|exact h5|exact h6|exact h7|exact h8|exact h9|rfl|trivial)⟩
theorem u64r (x:Int):0≤IntKind.u64.wrap x∧IntKind.u64.wrap x<18446744073709551616:=by
 show 0≤x % 18446744073709551616∧x % 18446744073709551616<18446744073709551616
 omega
def putW (s:WS) (nm:ByteArray) (a b c:Int):WS:=putN ((((s.put (IntKind.u64.wrap (nm.size:Int)) 5).put (IntKind.u64.wrap a) 6).put (IntKind.u64.wrap b) 31).put (IntKind.u64.wrap c) 2) nm 16
theorem putW_n (s:WS) (nm:ByteArray) (a b c:Int):(putW s nm a b c).n=s.n+1280:=by
 unfold putW
 rw [putN_n];rfl
def C_dput:Ctr Td:=fun us sub=>match us,sub with
 |[.one (.obj 0),.agg [.v (.string nm),.v (.int .i64 a),.v (.int .i64 b),.v (.int .i64 c)]],[⟨.us (.wr s),true⟩]=>some ([s.n≤300000000],.tup [],[⟨.us (.wr (putW s nm a b c)),true⟩,⟨.dead,true⟩])
 |_,_=>none
set_option maxRecDepth 100000 in
theorem C_dput_ok:CtrOk Try.prog Id' 120 C_dput:=by
 intro us sub ps x sm h hp w e vs hM ha
 unfold C_dput at h
 split at h
 ·rename_i nm a b c s
  simp only [Option.some.injEq,Prod.mk.injEq] at h
  obtain ⟨rfl,rfl,rfl⟩:=h
  have hs:s.n≤300000000:=hp _ (List.mem_cons_self ..)
  exact ctr_way (I:=Id') (fun (W0:World) (G:Nat→Prop)=>SyOk.mk2 Try.mixed dkHo_ok (FnsR.cons (F_putP_ok (J:=dkI) (hx:=hardDk)) (FnsR.nil)) EqsOk.nil) rfl Try.func120 (by kernel_rfl) (fun _ _=>LpsOk.cons (by kernel_rfl) (dput_lp _ nm a b c (by show s.n+64+64+64+64≤_;omega) _ rfl) (LpsOk.nil _)) (cs:=[]) (by kernel_rfl) (dput_w0 s _ (putW s nm a b c) nm a b c rfl rfl (u64r _) (u64r _) (u64r _) (u64r _) (by omega) (by show s.n+64≤_;omega) (by show s.n+64+64≤_;omega) (by show s.n+64+64+64≤_;omega)) w e vs hM ha
 ·cases h
end Go.Proofs.Ytdenmoiaiemokaa
set_option linter.unusedVariables false
set_option linter.unusedSimpArgs false
namespace Go.Proofs.Ytdenmoiaiemokaa
open Go.RowKit
def putR (s:WS) (r:Rw):WS:=putW s (r.ss.getD 0 ⟨#[]⟩) (r.is.getD 0 0) (r.is.getD 1 0) (r.is.getD 2 0)
def putsW (s:WS) (Y:List Rw):Nat→WS
 |0=>s
 |k+1=>putR (putsW s Y k) (Y.getD k Rw.zero)
theorem putsW_n (s:WS) (Y:List Rw):∀ k,(putsW s Y k).n=s.n+1280 * k
 |0=>rfl
 |k+1=>by show (putW _ _ _ _ _).n=_;rw [putW_n,putsW_n s Y k];omega
structure PutIs (s:WS) (nm:ByteArray) (a b c:Int) (s2:WS):Prop where
 h:putW s nm a b c=s2
def C_dputY (s2:WS):Ctr Td:=fun us sub=>match us,sub with
 |[.one (.obj 0),.agg [.v (.string nm),.v (.int .i64 a),.v (.int .i64 b),.v (.int .i64 c)]],[⟨.us (.wr s),true⟩]=>some ([s.n≤300000000,PutIs s nm a b c s2],.tup [],[⟨.us (.wr s2),true⟩,⟨.dead,true⟩])
 |_,_=>none
theorem C_dputY_ok (s2:WS):CtrOk Try.prog Id' 120 (C_dputY s2):=by
 intro us sub ps x sm h hp w e vs hM ha
 unfold C_dputY at h
 split at h
 ·rename_i nm a b c s
  simp only [Option.some.injEq,Prod.mk.injEq] at h
  obtain ⟨rfl,rfl,rfl⟩:=h
  have h0:s.n≤300000000:=hp _ (List.mem_cons_self ..)
  have h1:putW s nm a b c=s2:=(hp _ (List.mem_cons_of_mem _ (List.mem_cons_self ..)):PutIs s nm a b c s2).h
  subst h1
  exact C_dput_ok _ _ _ _ _ rfl (fun p hp'=>by rw [List.mem_singleton.1 hp'];exact h0) w e vs hM ha
 ·cases h
set_option maxRecDepth 100000 in
theorem dbi_n (R X Y:List Rw) (O:List (List UInt8)) (s s2:WS) (i i2:Int) (k:Nat) (f:Nat→Value) (h0:decide (i<(Y.length:Int))=true) (h1:IntKind.i64.wrap (i+1)=i2) (h2:0≤i∧i.toNat<Y.length) (h3:s.n≤300000000) (h4:PutIs s ((Y.getD i.toNat Rw.zero).ss.getD 0 ⟨#[]⟩) ((Y.getD i.toNat Rw.zero).is.getD 0 0) ((Y.getD i.toNat Rw.zero).is.getD 1 0) ((Y.getD i.toNat Rw.zero).is.getD 2 0) s2):∃ qs,alN Id' 5 [(34,.c (.one (.v (.int .i64 i2))))] [⟨.us (.ext (.vw [true,false,false,false] R)),false⟩,⟨.us (.ext (.vw [true,false,false,false] X)),false⟩,⟨.us (.ext (.tab (.bs O))),true⟩,⟨.us (.wr s2),true⟩,⟨.us (.ext (.vw [true,false,false,false] Y)),false⟩] ((symC (⟨Try.prog,[(120,ctrF Id' (C_dputY s2) hardD)],[],dkHo,Id'.one,60⟩:Sy Td) [] 59 (hdC (loopsC (bodyOf Try.f58)) 1) ⟨[(34,.c (.one (.v (.int .i64 i))))]++anyB' (writesC (hdC (loopsC (bodyOf Try.f58)) 1)) ([(6,.c (.one (.obj 3))),(32,.c (.one (.obj 4))),(33,.c (.one (.v (.int .i64 (Y.length:Int)))))]++tabV f 59),[⟨.us (.ext (.vw [true,false,false,false] R)),false⟩,⟨.us (.ext (.vw [true,false,false,false] X)),false⟩,⟨.us (.ext (.tab (.bs O))),true⟩,⟨.us (.wr s),true⟩,⟨.us (.ext (.vw [true,false,false,false] Y)),false⟩],0⟩).al [true])=some qs∧∀ q∈qs,q:=
 ⟨[decide (i<(↑Y.length:Int))=true,(0:Int)≤i∧i.toNat<Y.length,s.n≤(300000000:Nat),PutIs s ((Y.getD i.toNat Rw.zero).ss.getD (0:Nat) (ByteArray.mk #[])) ((Y.getD i.toNat Rw.zero).is.getD (0:Nat) (0:Int)) ((Y.getD i.toNat Rw.zero).is.getD ((0:Nat)+(1:Nat)) (0:Int)) ((Y.getD i.toNat Rw.zero).is.getD ((0:Nat)+(1:Nat)+(1:Nat)) (0:Int)) s2,Th.ext (Dk.vw [true,false,false,false] R)=Th.ext (Dk.vw [true,false,false,false] R),Th.ext (Dk.vw [true,false,false,false] X)=Th.ext (Dk.vw [true,false,false,false] X),Th.ext (Dk.tab (TB.bs O))=Th.ext (Dk.tab (TB.bs O)),(Th.wr s2:Td)=Th.wr s2,Th.ext (Dk.vw [true,false,false,false] Y)=Th.ext (Dk.vw [true,false,false,false] Y),Value.int IntKind.i64 (IntKind.i64.wrap (i+(1:Int)))=Value.int IntKind.i64 i2],by kernel_rfl,(by refine mcons ?_ (mcons ?_ (mcons ?_ (mcons ?_ (mcons ?_ (mcons ?_ (mcons ?_ (mcons ?_ (mcons ?_ (mcons ?_ mnil)))))))))<;>first|rfl|exact h0|exact h1|exact h2|exact h3|exact h4|trivial|(exact congrArg _ h1))⟩
set_option maxRecDepth 100000 in
theorem dbi_x (R X Y:List Rw) (O:List (List UInt8)) (s s2:WS) (i i2:Int) (k:Nat) (f:Nat→Value) (h0:decide (i<(Y.length:Int))=false) (h1:s=s2):∃ qs,alX Id' 5 3 [] [⟨.us (.ext (.vw [true,false,false,false] R)),false⟩,⟨.us (.ext (.vw [true,false,false,false] X)),false⟩,⟨.us (.ext (.tab (.bs O))),true⟩,⟨.us (.wr s2),true⟩,⟨.us (.ext (.vw [true,false,false,false] Y)),false⟩] ((symC (⟨Try.prog,[(120,ctrF Id' (C_dputY s) hardD)],[],dkHo,Id'.one,60⟩:Sy Td) [] 59 (hdC (loopsC (bodyOf Try.f58)) 1) ⟨[(34,.c (.one (.v (.int .i64 i))))]++anyB' (writesC (hdC (loopsC (bodyOf Try.f58)) 1)) ([(6,.c (.one (.obj 3))),(32,.c (.one (.obj 4))),(33,.c (.one (.v (.int .i64 (Y.length:Int)))))]++tabV f 59),[⟨.us (.ext (.vw [true,false,false,false] R)),false⟩,⟨.us (.ext (.vw [true,false,false,false] X)),false⟩,⟨.us (.ext (.tab (.bs O))),true⟩,⟨.us (.wr s),true⟩,⟨.us (.ext (.vw [true,false,false,false] Y)),false⟩],0⟩).al [false])=some qs∧∀ q∈qs,q:=
 ⟨[decide (i<(↑Y.length:Int))=false,Th.ext (Dk.vw [true,false,false,false] R)=Th.ext (Dk.vw [true,false,false,false] R),Th.ext (Dk.vw [true,false,false,false] X)=Th.ext (Dk.vw [true,false,false,false] X),Th.ext (Dk.tab (TB.bs O))=Th.ext (Dk.tab (TB.bs O)),(Th.wr s:Td)=Th.wr s2,Th.ext (Dk.vw [true,false,false,false] Y)=Th.ext (Dk.vw [true,false,false,false] Y)],by kernel_rfl,(by refine mcons ?_ (mcons ?_ (mcons ?_ (mcons ?_ (mcons ?_ (mcons ?_ mnil)))))<;>first|rfl|exact h0|exact h1|trivial|(exact congrArg _ h1))⟩
set_option maxRecDepth 100000 in
theorem dbi_lp (R X Y:List Rw) (O:List (List UInt8)) (s:WS) (hY:Y.length≤100000) (hs:s.n≤100000000) {W0:World} {G:Nat→Prop} (S0:Sy Td) (hS0:S0.P=Try.prog):LoopSound S0 Id' W0 G 59 (hdC (loopsC (bodyOf Try.f58)) 1) (lpG Id' 59 (hdC (loopsC (bodyOf Try.f58)) 1) 5 [(34,.c (.one (.v (.int .i64 ((0:Nat):Int)))))] [(6,.c (.one (.obj 3))),(32,.c (.one (.obj 4))),(33,.c (.one (.v (.int .i64 (Y.length:Int)))))] [⟨.us (.ext (.vw [true,false,false,false] R)),false⟩,⟨.us (.ext (.vw [true,false,false,false] X)),false⟩,⟨.us (.ext (.tab (.bs O))),true⟩,⟨.us (.wr (putsW s Y 0)),true⟩,⟨.us (.ext (.vw [true,false,false,false] Y)),false⟩] (.leaf (.exit 3) [] [⟨.us (.ext (.vw [true,false,false,false] R)),false⟩,⟨.us (.ext (.vw [true,false,false,false] X)),false⟩,⟨.us (.ext (.tab (.bs O))),true⟩,⟨.us (.wr (putsW s Y Y.length)),true⟩,⟨.us (.ext (.vw [true,false,false,false] Y)),false⟩])):=by
 refine lp_sound (V:=fun k=>[(34,.c (.one (.v (.int .i64 (k:Int)))))]) (M:=(fun k=>[⟨.us (.ext (.vw [true,false,false,false] R)),false⟩,⟨.us (.ext (.vw [true,false,false,false] X)),false⟩,⟨.us (.ext (.tab (.bs O))),true⟩,⟨.us (.wr (putsW s Y k)),true⟩,⟨.us (.ext (.vw [true,false,false,false] Y)),false⟩]:Nat→Mem Td)) (N:=Y.length) (Ux:=fun k x=>match x with|.exit 3=>some ([],([⟨.us (.ext (.vw [true,false,false,false] R)),false⟩,⟨.us (.ext (.vw [true,false,false,false] X)),false⟩,⟨.us (.ext (.tab (.bs O))),true⟩,⟨.us (.wr (putsW s Y Y.length)),true⟩,⟨.us (.ext (.vw [true,false,false,false] Y)),false⟩]:Mem Td))|_=>none) (X:=fun _ _=>True) (J:=fun k=>k≤Y.length) (fun k=>by kernel_rfl) (Nat.zero_le _) (fun k hk hJ f=>?_) (fun K hK k x U hk hU hX=>?_)
 ·rw [hS0]
  cases hT:decide ((k:Int)<(Y.length:Int)) with
  |false=>
   have hke:k=Y.length:=by have:=of_decide_eq_false hT;omega
   exact rnd_xD (⟨Try.prog,[(120,ctrF Id' (C_dputY (putsW s Y k)) hardD)],[],dkHo,Id'.one,60⟩:Sy Td) rfl ((fun (W0:World) (G:Nat→Prop)=>SyOk.mk2 Try.mixed dkHo_ok (FnsR.cons ((ctrF_ok Try.call120 (C_dputY_ok (putsW s Y k)))) (FnsR.nil)) EqsOk.nil) W0 G) (dbi_x R X Y O (putsW s Y k) (putsW s Y Y.length) (k:Int) ((k+1:Nat):Int) k f hT (by rw [hke])) rfl  trivial
  |true=>
   have hk1:=of_decide_eq_true hT
   have hn:=putsW_n s Y k
   have hW:IntKind.i64.wrap ((k:Int)+1)=((k+1:Nat):Int):=by rw [IntWalk.i64_in _ (by omega)];omega
   exact rnd_nD (⟨Try.prog,[(120,ctrF Id' (C_dputY (putsW s Y (k+1))) hardD)],[],dkHo,Id'.one,60⟩:Sy Td) rfl ((fun (W0:World) (G:Nat→Prop)=>SyOk.mk2 Try.mixed dkHo_ok (FnsR.cons ((ctrF_ok Try.call120 (C_dputY_ok (putsW s Y (k+1))))) (FnsR.nil)) EqsOk.nil) W0 G) (dbi_n R X Y O (putsW s Y k) (putsW s Y (k+1)) (k:Int) ((k+1:Nat):Int) k f hT hW (by omega) (by omega) ⟨by rw [Int.toNat_natCast];rfl⟩) rfl  rfl (by omega) (by omega)
 ·revert hU
  match x with
  |.normal=>intro hU;cases hU
  |.ret=>intro hU;cases hU
  |.exit n=>
   intro hU
   by_cases h:n=3
   ·subst h;simp only [Option.some.injEq] at hU;subst hU;exact hK
   ·exfalso;split at hU
    ·rename_i he;cases he;exact h rfl
    ·cases hU
end Go.Proofs.Ytdenmoiaiemokaa
