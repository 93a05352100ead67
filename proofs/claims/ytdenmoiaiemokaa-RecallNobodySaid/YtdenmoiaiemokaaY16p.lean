/- Y16. -/
import Derived.Test.YtdenmoiaiemokaaY15p
import Derived.Test.YtdenmoiaiemokaaH13p
set_option linter.unusedVariables false
set_option linter.unusedSimpArgs false
namespace Go.Proofs.Ytdenmoiaiemokaa
open Go.RowKit
theorem hitw_eq (Y:List Rw) (a b c i:Int):(a==(Y.getD i.toNat Rw.zero).is.getD 0 0&&(b==(Y.getD i.toNat Rw.zero).is.getD 1 0&&true)&&(c==(Y.getD i.toNat Rw.zero).is.getD 2 0&&true))=hitR Y a b c i:=by
 unfold hitR
 have h:∀ x y:Int,(x==y)=(y==x):=fun x y=>by
  cases h1:(x==y) with
  |true=>rw [eq_of_beq h1];exact (beq_self_eq_true y).symm
  |false=>exact ((beq_eq_false_iff_ne.2 fun e=>beq_eq_false_iff_ne.1 h1 e.symm)).symm
 rw [h a,h b,h c,Bool.and_true ((Y.getD i.toNat Rw.zero).is.getD 2 0==c)]
theorem hitw_no {Y:List Rw} {a b c i:Int} (h:atP Y a b c i=true):(a==(Y.getD i.toNat Rw.zero).is.getD 0 0&&(b==(Y.getD i.toNat Rw.zero).is.getD 1 0&&true)&&(c==(Y.getD i.toNat Rw.zero).is.getD 2 0&&true))=false:=by rw [hitw_eq,hit_no h]
theorem hitw_yes {Y:List Rw} {a b c i:Int} (h:atP Y a b c i=false):(a==(Y.getD i.toNat Rw.zero).is.getD 0 0&&(b==(Y.getD i.toNat Rw.zero).is.getD 1 0&&true)&&(c==(Y.getD i.toNat Rw.zero).is.getD 2 0&&true))=true:=by rw [hitw_eq,hit_yes h]
set_option maxRecDepth 100000 in
theorem six_n (Y:List Rw) (a b c:Int) (i i2:Int) (k:Nat) (f:Nat→Value) (h0:decide (i<(Y.length:Int))=true) (h1:IntKind.i64.wrap (i+1)=i2) (h2:0≤i∧i.toNat<Y.length) (h3:atP Y a b c (i)=true):∃ qs,alN Id' 2 [(8,.c (.one (.v (.int .i64 i2))))] [⟨.us (.ext (.flat (.rw 72 [false,false,false] Y))),false⟩,⟨.blk [.v (.int .i64 a),.v (.int .i64 b),.v (.int .i64 c)],true⟩] ((symC (⟨Try.prog,[],[E_of Try.prog 57,E_of Try.prog 72],dkHo,Id'.one,60⟩:Sy Td) [] 19 (hdC (loopsC (bodyOf Try.f152)) 0) ⟨[(8,.c (.one (.v (.int .i64 i))))]++anyB' (writesC (hdC (loopsC (bodyOf Try.f152)) 0)) ([(0,.c (.one (.obj 0))),(3,.c (.one (.ptr 1 0))),(7,.c (.one (.v (.int .i64 (Y.length:Int)))))]++tabV f 19),[⟨.us (.ext (.flat (.rw 72 [false,false,false] Y))),false⟩,⟨.blk [.v (.int .i64 a),.v (.int .i64 b),.v (.int .i64 c)],true⟩],0⟩).al [true,false])=some qs∧∀ q∈qs,q:=
 ⟨[decide (i<(↑Y.length:Int))=true,(0:Int)≤i∧i.toNat<(FL.rw 72 [false,false,false] Y).n,(a==(Y.getD i.toNat Rw.zero).is.getD (0:Nat) (0:Int)&&(b==(Y.getD i.toNat Rw.zero).is.getD ((0:Nat)+(1:Nat)) (0:Int)&&true)&&(c==(Y.getD i.toNat Rw.zero).is.getD ((0:Nat)+(1:Nat)+(1:Nat)) (0:Int)&&true))=false,(Th.ext (Dk.flat (FL.rw 72 [false,false,false] Y)):Td)=Th.ext (Dk.flat (FL.rw 72 [false,false,false] Y)),Value.int IntKind.i64 a=Value.int IntKind.i64 a,Value.int IntKind.i64 b=Value.int IntKind.i64 b,Value.int IntKind.i64 c=Value.int IntKind.i64 c,Value.int IntKind.i64 (IntKind.i64.wrap (i+(1:Int)))=Value.int IntKind.i64 i2],by kernel_rfl,(by refine mcons ?_ (mcons ?_ (mcons ?_ (mcons ?_ (mcons ?_ (mcons ?_ (mcons ?_ (mcons ?_ mnil)))))))<;>first|rfl|exact h0|exact h1|exact h2|exact h3|trivial|(exact congrArg _ h1)|(exact h2)|(exact hitw_no h3)|(exact hitw_yes h3))⟩
set_option maxRecDepth 100000 in
theorem six_x (Y:List Rw) (a b c:Int) (i i2:Int) (k:Nat) (f:Nat→Value) (h0:decide (i<(Y.length:Int))=false):∃ qs,alX Id' 2 0 [] [⟨.us (.ext (.flat (.rw 72 [false,false,false] Y))),false⟩,⟨.blk [.v (.int .i64 a),.v (.int .i64 b),.v (.int .i64 c)],true⟩] ((symC (⟨Try.prog,[],[E_of Try.prog 57,E_of Try.prog 72],dkHo,Id'.one,60⟩:Sy Td) [] 19 (hdC (loopsC (bodyOf Try.f152)) 0) ⟨[(8,.c (.one (.v (.int .i64 i))))]++anyB' (writesC (hdC (loopsC (bodyOf Try.f152)) 0)) ([(0,.c (.one (.obj 0))),(3,.c (.one (.ptr 1 0))),(7,.c (.one (.v (.int .i64 (Y.length:Int)))))]++tabV f 19),[⟨.us (.ext (.flat (.rw 72 [false,false,false] Y))),false⟩,⟨.blk [.v (.int .i64 a),.v (.int .i64 b),.v (.int .i64 c)],true⟩],0⟩).al [false])=some qs∧∀ q∈qs,q:=
 ⟨[decide (i<(↑Y.length:Int))=false,(Th.ext (Dk.flat (FL.rw 72 [false,false,false] Y)):Td)=Th.ext (Dk.flat (FL.rw 72 [false,false,false] Y)),Value.int IntKind.i64 a=Value.int IntKind.i64 a,Value.int IntKind.i64 b=Value.int IntKind.i64 b,Value.int IntKind.i64 c=Value.int IntKind.i64 c],by kernel_rfl,(by refine mcons ?_ (mcons ?_ (mcons ?_ (mcons ?_ (mcons ?_ mnil))))<;>first|rfl|exact h0|trivial|(exact congrArg _ h1)|(exact h2)|(exact hitw_no h3)|(exact hitw_yes h3))⟩
set_option maxRecDepth 100000 in
theorem six_lpA (Y:List Rw) (a b c:Int) (hL:Y.length≤100000)  (hall:∀ i:Int,0≤i→i.toNat<Y.length→atP Y a b c (i)=true) {W0:World} {G:Nat→Prop} (S0:Sy Td) (hS0:S0.P=Try.prog):LoopSound S0 Id' W0 G 19 (hdC (loopsC (bodyOf Try.f152)) 0) (lpG Id' 19 (hdC (loopsC (bodyOf Try.f152)) 0) 2 [(8,.c (.one (.v (.int .i64 ((0+0:Nat):Int)))))] [(0,.c (.one (.obj 0))),(3,.c (.one (.ptr 1 0))),(7,.c (.one (.v (.int .i64 (Y.length:Int)))))] [⟨.us (.ext (.flat (.rw 72 [false,false,false] Y))),false⟩,⟨.blk [.v (.int .i64 a),.v (.int .i64 b),.v (.int .i64 c)],true⟩] (.leaf (.exit 0) [] [⟨.us (.ext (.flat (.rw 72 [false,false,false] Y))),false⟩,⟨.blk [.v (.int .i64 a),.v (.int .i64 b),.v (.int .i64 c)],true⟩])):=by
 refine lp_sound (V:=fun k=>[(8,.c (.one (.v (.int .i64 ((k+0:Nat):Int)))))]) (M:=(fun k=>[⟨.us (.ext (.flat (.rw 72 [false,false,false] Y))),false⟩,⟨.blk [.v (.int .i64 a),.v (.int .i64 b),.v (.int .i64 c)],true⟩]:Nat→Mem Td)) (N:=Y.length) (Ux:=fun k x=>match x with|.exit 0=>some ([],([⟨.us (.ext (.flat (.rw 72 [false,false,false] Y))),false⟩,⟨.blk [.v (.int .i64 a),.v (.int .i64 b),.v (.int .i64 c)],true⟩]:Mem Td))|_=>none) (X:=fun _ _=>True) (J:=fun k=>True) (fun k=>by kernel_rfl) trivial (fun k hk hJ f=>?_) (fun K hK k x U hk hU hX=>?_)
 ·rw [hS0]
  cases hT:decide (((k+0:Nat):Int)<(Y.length:Int)) with
  |false=>
   exact rnd_xD (⟨Try.prog,[],[E_of Try.prog 57,E_of Try.prog 72],dkHo,Id'.one,60⟩:Sy Td) rfl ((fun (W0:World) (G:Nat→Prop)=>SyOk.mk2 Try.mixed dkHo_ok (FnsR.nil) (E_of_ok (by kernel_rfl) (E_of_ok (by kernel_rfl) (EqsOk.nil)))) W0 G) (six_x Y a b c ((k+0:Nat):Int) ((k+1+0:Nat):Int) k f hT) rfl trivial
  |true=>
   have hk1:=of_decide_eq_true hT
   have hW:IntKind.i64.wrap (((k+0:Nat):Int)+1)=((k+1+0:Nat):Int):=by rw [IntWalk.i64_in _ (by omega)];omega
   exact rnd_nD (⟨Try.prog,[],[E_of Try.prog 57,E_of Try.prog 72],dkHo,Id'.one,60⟩:Sy Td) rfl ((fun (W0:World) (G:Nat→Prop)=>SyOk.mk2 Try.mixed dkHo_ok (FnsR.nil) (E_of_ok (by kernel_rfl) (E_of_ok (by kernel_rfl) (EqsOk.nil)))) W0 G) (six_n Y a b c ((k+0:Nat):Int) ((k+1+0:Nat):Int) k f hT hW (by omega) (hall _ (by omega) (by omega)) ) rfl rfl (by omega) trivial
 ·revert hU
  match x with
  |.exit 0=>intro hU;simp only [Option.some.injEq] at hU;subst hU;exact hK
  |.normal=>intro hU;cases hU
  |.ret=>intro hU;cases hU
  |.exit (n+1)=>intro hU;cases hU
set_option maxRecDepth 100000 in
theorem six_r (Y:List Rw) (a b c:Int) (i i2:Int) (k:Nat) (f:Nat→Value) (h0:decide (i<(Y.length:Int))=true) (h1:i=i2) (h2:0≤i∧i.toNat<Y.length) (h3:atP Y a b c (i)=false):∃ qs,alR Id' 2 [(4,.c (.one (.v (.int .i64 i2))))] [⟨.us (.ext (.flat (.rw 72 [false,false,false] Y))),false⟩,⟨.blk [.v (.int .i64 a),.v (.int .i64 b),.v (.int .i64 c)],true⟩] ((symC (⟨Try.prog,[],[E_of Try.prog 57,E_of Try.prog 72],dkHo,Id'.one,60⟩:Sy Td) [] 19 (hdC (loopsC (bodyOf Try.f152)) 0) ⟨[(8,.c (.one (.v (.int .i64 i))))]++anyB' (writesC (hdC (loopsC (bodyOf Try.f152)) 0)) ([(0,.c (.one (.obj 0))),(3,.c (.one (.ptr 1 0))),(7,.c (.one (.v (.int .i64 (Y.length:Int)))))]++tabV f 19),[⟨.us (.ext (.flat (.rw 72 [false,false,false] Y))),false⟩,⟨.blk [.v (.int .i64 a),.v (.int .i64 b),.v (.int .i64 c)],true⟩],0⟩).al [true,true])=some qs∧∀ q∈qs,q:=
 ⟨[decide (i<(↑Y.length:Int))=true,(0:Int)≤i∧i.toNat<(FL.rw 72 [false,false,false] Y).n,(a==(Y.getD i.toNat Rw.zero).is.getD (0:Nat) (0:Int)&&(b==(Y.getD i.toNat Rw.zero).is.getD ((0:Nat)+(1:Nat)) (0:Int)&&true)&&(c==(Y.getD i.toNat Rw.zero).is.getD ((0:Nat)+(1:Nat)+(1:Nat)) (0:Int)&&true))=true,(Th.ext (Dk.flat (FL.rw 72 [false,false,false] Y)):Td)=Th.ext (Dk.flat (FL.rw 72 [false,false,false] Y)),Value.int IntKind.i64 a=Value.int IntKind.i64 a,Value.int IntKind.i64 b=Value.int IntKind.i64 b,Value.int IntKind.i64 c=Value.int IntKind.i64 c,Value.int IntKind.i64 i=Value.int IntKind.i64 i2],by kernel_rfl,(by refine mcons ?_ (mcons ?_ (mcons ?_ (mcons ?_ (mcons ?_ (mcons ?_ (mcons ?_ (mcons ?_ mnil)))))))<;>first|rfl|exact h0|exact h1|exact h2|exact h3|trivial|(exact congrArg _ h1)|(exact h2)|(exact hitw_no h3)|(exact hitw_yes h3))⟩
set_option maxRecDepth 100000 in
theorem six_lpR (Y:List Rw) (a b c:Int) (e:Int) (hL:Y.length≤100000)  (he0:0≤e∧e.toNat<Y.length) (he1:atP Y a b c (e)=false) (he2:∀ i:Int,0≤i→i<e→atP Y a b c (i)=true) {W0:World} {G:Nat→Prop} (S0:Sy Td) (hS0:S0.P=Try.prog):LoopSound S0 Id' W0 G 19 (hdC (loopsC (bodyOf Try.f152)) 0) (lpG Id' 19 (hdC (loopsC (bodyOf Try.f152)) 0) 2 [(8,.c (.one (.v (.int .i64 ((0+0:Nat):Int)))))] [(0,.c (.one (.obj 0))),(3,.c (.one (.ptr 1 0))),(7,.c (.one (.v (.int .i64 (Y.length:Int)))))] [⟨.us (.ext (.flat (.rw 72 [false,false,false] Y))),false⟩,⟨.blk [.v (.int .i64 a),.v (.int .i64 b),.v (.int .i64 c)],true⟩] (.leaf .ret [(4,.c (.one (.v (.int .i64 e))))] [⟨.us (.ext (.flat (.rw 72 [false,false,false] Y))),false⟩,⟨.blk [.v (.int .i64 a),.v (.int .i64 b),.v (.int .i64 c)],true⟩])):=by
 refine lp_sound (V:=fun k=>[(8,.c (.one (.v (.int .i64 ((k+0:Nat):Int)))))]) (M:=(fun k=>[⟨.us (.ext (.flat (.rw 72 [false,false,false] Y))),false⟩,⟨.blk [.v (.int .i64 a),.v (.int .i64 b),.v (.int .i64 c)],true⟩]:Nat→Mem Td)) (N:=Y.length) (Ux:=fun k x=>match x with|.ret=>some ([(4,.c (.one (.v (.int .i64 e))))],([⟨.us (.ext (.flat (.rw 72 [false,false,false] Y))),false⟩,⟨.blk [.v (.int .i64 a),.v (.int .i64 b),.v (.int .i64 c)],true⟩]:Mem Td))|_=>none) (X:=fun _ _=>True) (J:=fun k=>((k+0:Nat):Int)≤e) (fun k=>by kernel_rfl) (by omega) (fun k hk hJ f=>?_) (fun K hK k x U hk hU hX=>?_)
 ·rw [hS0]
  cases hT:decide (((k+0:Nat):Int)<(Y.length:Int)) with
  |false=>
   have:=of_decide_eq_false hT
   omega
  |true=>
   have hk1:=of_decide_eq_true hT
   have hW:IntKind.i64.wrap (((k+0:Nat):Int)+1)=((k+1+0:Nat):Int):=by rw [IntWalk.i64_in _ (by omega)];omega
   cases hq:atP Y a b c (((k+0:Nat):Int)) with
   |true=>
    exact rnd_nD (⟨Try.prog,[],[E_of Try.prog 57,E_of Try.prog 72],dkHo,Id'.one,60⟩:Sy Td) rfl ((fun (W0:World) (G:Nat→Prop)=>SyOk.mk2 Try.mixed dkHo_ok (FnsR.nil) (E_of_ok (by kernel_rfl) (E_of_ok (by kernel_rfl) (EqsOk.nil)))) W0 G) (six_n Y a b c ((k+0:Nat):Int) ((k+1+0:Nat):Int) k f hT hW (by omega) hq ) rfl rfl (by omega) (by
     rcases Int.lt_or_eq_of_le hJ with h|h
     ·omega
     ·rw [h,he1] at hq;cases hq)
   |false=>
    have hie:((k+0:Nat):Int)=e:=by
     rcases Int.lt_or_eq_of_le hJ with h|h
     ·rw [he2 _ (by omega) h] at hq;cases hq
     ·exact h
    exact rnd_rD (⟨Try.prog,[],[E_of Try.prog 57,E_of Try.prog 72],dkHo,Id'.one,60⟩:Sy Td) rfl ((fun (W0:World) (G:Nat→Prop)=>SyOk.mk2 Try.mixed dkHo_ok (FnsR.nil) (E_of_ok (by kernel_rfl) (E_of_ok (by kernel_rfl) (EqsOk.nil)))) W0 G) (six_r Y a b c ((k+0:Nat):Int) e k f hT hie (by omega) hq ) rfl trivial
 ·revert hU
  match x with
  |.ret=>intro hU;simp only [Option.some.injEq] at hU;subst hU;exact hK
  |.normal=>intro hU;cases hU
  |.exit n=>intro hU;cases hU
set_option maxRecDepth 100000 in
theorem sixA_w0 (Y:List Rw) (a b c:Int) :∃ qs,wayV ((runFn (⟨Try.prog,[],[E_of Try.prog 57,E_of Try.prog 72],dkHo,Id'.one,60⟩:Sy Td) [(2,(lpG Id' 19 (hdC (loopsC (bodyOf Try.f152)) 0) 2 [(8,.c (.one (.v (.int .i64 ((0+0:Nat):Int)))))] [(0,.c (.one (.obj 0))),(3,.c (.one (.ptr 1 0))),(7,.c (.one (.v (.int .i64 (Y.length:Int)))))] [⟨.us (.ext (.flat (.rw 72 [false,false,false] Y))),false⟩,⟨.blk [.v (.int .i64 a),.v (.int .i64 b),.v (.int .i64 c)],true⟩] (.leaf (.exit 0) [] [⟨.us (.ext (.flat (.rw 72 [false,false,false] Y))),false⟩,⟨.blk [.v (.int .i64 a),.v (.int .i64 b),.v (.int .i64 c)],true⟩])))] Try.f152 [.one (.obj 0),.agg [.v (.int .i64 a),.v (.int .i64 b),.v (.int .i64 c)]] (roM [⟨.us (.ext (.flat (.rw 72 [false,false,false] Y))),true⟩])).al []) (fun u=>u=.int .i64 (-1))=some qs∧∀ q∈qs,q:=
 ⟨[Value.int IntKind.i64 (Int.negSucc 0)=Value.int IntKind.i64 (Int.negSucc 0),Value.int IntKind.i64 (↑(FL.rw 72 [false,false,false] Y).n:Int)=Value.int IntKind.i64 (↑Y.length:Int),(Th.ext (Dk.flat (FL.rw 72 [false,false,false] Y)):Td)=Th.ext (Dk.flat (FL.rw 72 [false,false,false] Y)),Value.int IntKind.i64 a=Value.int IntKind.i64 a,Value.int IntKind.i64 b=Value.int IntKind.i64 b,Value.int IntKind.i64 c=Value.int IntKind.i64 c,Value.int IntKind.i64 (Int.ofNat 0)=Value.int IntKind.i64 (Int.ofNat ((0:Nat)+(0:Nat)))],by kernel_rfl,(by refine mcons ?_ (mcons ?_ (mcons ?_ (mcons ?_ (mcons ?_ (mcons ?_ (mcons ?_ mnil))))))<;>first|rfl|trivial)⟩
set_option maxRecDepth 100000 in
theorem sixR_w0 (Y:List Rw) (a b c:Int) (e:Int) :∃ qs,wayV ((runFn (⟨Try.prog,[],[E_of Try.prog 57,E_of Try.prog 72],dkHo,Id'.one,60⟩:Sy Td) [(2,(lpG Id' 19 (hdC (loopsC (bodyOf Try.f152)) 0) 2 [(8,.c (.one (.v (.int .i64 ((0+0:Nat):Int)))))] [(0,.c (.one (.obj 0))),(3,.c (.one (.ptr 1 0))),(7,.c (.one (.v (.int .i64 (Y.length:Int)))))] [⟨.us (.ext (.flat (.rw 72 [false,false,false] Y))),false⟩,⟨.blk [.v (.int .i64 a),.v (.int .i64 b),.v (.int .i64 c)],true⟩] (.leaf .ret [(4,.c (.one (.v (.int .i64 e))))] [⟨.us (.ext (.flat (.rw 72 [false,false,false] Y))),false⟩,⟨.blk [.v (.int .i64 a),.v (.int .i64 b),.v (.int .i64 c)],true⟩])))] Try.f152 [.one (.obj 0),.agg [.v (.int .i64 a),.v (.int .i64 b),.v (.int .i64 c)]] (roM [⟨.us (.ext (.flat (.rw 72 [false,false,false] Y))),true⟩])).al []) (fun u=>u=.int .i64 e)=some qs∧∀ q∈qs,q:=
 ⟨[Value.int IntKind.i64 e=Value.int IntKind.i64 e,Value.int IntKind.i64 (↑(FL.rw 72 [false,false,false] Y).n:Int)=Value.int IntKind.i64 (↑Y.length:Int),(Th.ext (Dk.flat (FL.rw 72 [false,false,false] Y)):Td)=Th.ext (Dk.flat (FL.rw 72 [false,false,false] Y)),Value.int IntKind.i64 a=Value.int IntKind.i64 a,Value.int IntKind.i64 b=Value.int IntKind.i64 b,Value.int IntKind.i64 c=Value.int IntKind.i64 c,Value.int IntKind.i64 (Int.ofNat 0)=Value.int IntKind.i64 (Int.ofNat ((0:Nat)+(0:Nat)))],by kernel_rfl,(by refine mcons ?_ (mcons ?_ (mcons ?_ (mcons ?_ (mcons ?_ (mcons ?_ (mcons ?_ mnil))))))<;>first|rfl|trivial)⟩
def C_six:CtrV Td:=fun us sub=>match us,sub with
 |[.one (.obj 0),.agg [.v (.int .i64 a),.v (.int .i64 b),.v (.int .i64 c)]],[⟨.us (.ext (.flat (.rw 72 [false,false,false] Y))),false⟩]=>some ([Y.length≤100000],.int .i64 (atE Y a b c))
 |_,_=>none
set_option maxRecDepth 100000 in
theorem C_six_ok:CtrVOk Try.prog Id' 152 C_six:=by
 intro us sub ps x h hp w e vs hM ha
 unfold C_six at h
 split at h
 ·rename_i a b c Y
  simp only [Option.some.injEq,Prod.mk.injEq] at h
  obtain ⟨rfl,rfl⟩:=h
  have hL:Y.length≤100000:=hp _ (List.mem_cons_self ..)
  rcases fst_cases Y.length (atP Y a b c) with ⟨hv,hall⟩|⟨h1,h2,h3,h4⟩
  ·unfold atE
   rw [hv]
   exact ctrv_way (I:=Id') (fun (W0:World) (G:Nat→Prop)=>SyOk.mk2 Try.mixed dkHo_ok (FnsR.nil) (E_of_ok (by kernel_rfl) (E_of_ok (by kernel_rfl) (EqsOk.nil)))) rfl Try.func152 (by kernel_rfl) (fun W0 G=>LpsOk.cons (by kernel_rfl) (six_lpA Y a b c hL hall _ rfl) (LpsOk.nil _)) (cs:=[]) (by kernel_rfl) (sixA_w0 Y a b c ) w e vs hM ha
  ·exact ctrv_way (I:=Id') (fun (W0:World) (G:Nat→Prop)=>SyOk.mk2 Try.mixed dkHo_ok (FnsR.nil) (E_of_ok (by kernel_rfl) (E_of_ok (by kernel_rfl) (EqsOk.nil)))) rfl Try.func152 (by kernel_rfl) (fun W0 G=>LpsOk.cons (by kernel_rfl) (six_lpR Y a b c _ hL ⟨h1,h2⟩ h3 h4 _ rfl) (LpsOk.nil _)) (cs:=[]) (by kernel_rfl) (sixR_w0 Y a b c _ ) w e vs hM ha
 ·cases h
theorem R_six:RowOk Try.prog Id' hardD 152 (ctrV C_six hardD):=ctrV_ok Try.call152 C_six_ok
end Go.Proofs.Ytdenmoiaiemokaa
