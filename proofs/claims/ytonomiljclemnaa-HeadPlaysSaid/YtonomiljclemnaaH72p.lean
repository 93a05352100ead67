/- H15 H16 H17 H18 H19 H20 H21 H24 H25 H26 H27 H28 H29 H30 H31 H32 HRd H37 H38 H39 H63 H64 H66 H67 H68 H69 H70 H71 H40 Q1 Q2 Q3 Q4 H41 H42 H72. -/
import Derived.Test.YtonomiljclemnaaH14p
import Derived.Test.YtonomiljclemnaaF2p
import Derived.Test.YtonomiljclemnaaOpenp
import Derived.Test.YtonomiljclemnaaH61p
import Derived.Test.YtonomiljclemnaaH65p
import Derived.Test.YtonomiljclemnaaBasep
import Derived.Deep.QuietTactic
import Derived.Test.YtonomiljclemnaaH3p
set_option linter.unusedVariables false
set_option linter.unusedSimpArgs false
namespace Go.Proofs.Ytonomiljclemnaa
open Go.RowKit
def flQ (L:List (List UInt8)) (Q:List (Int×List UInt8)):Nat→List (List UInt8)
 |0=>L
 |k+1=>(flQ L Q k).set (Q.getD k (0,[])).1.toNat (Q.getD k (0,[])).2
def flD (L:List (List UInt8)) (Q:List (Int×List UInt8)):List (List UInt8):=flQ L Q Q.length
def AtQ (n:Nat) (Q:List (Int×List UInt8)):Prop:=∀ q∈Q,0≤q.1∧q.1.toNat<n
theorem flQ_len (L:List (List UInt8)) (Q:List (Int×List UInt8)):∀ k,(flQ L Q k).length=L.length
 |0=>rfl
 |k+1=>by simp only [flQ,List.length_set];exact flQ_len L Q k
theorem AtQ.at {n:Nat} {Q:List (Int×List UInt8)} (h:AtQ n Q) {k:Int} (hk:0≤k∧k.toNat<Q.length):0≤(Q.getD k.toNat (0,[])).1∧(Q.getD k.toNat (0,[])).1.toNat<n:=by
 have:Q.getD k.toNat (0,[])∈Q:=by
  rw [List.getD_eq_getElem?_getD,List.getElem?_eq_getElem hk.2]
  exact List.getElem_mem ..
 exact h _ this
theorem flQ_wid {L:List (List UInt8)} {Q:List (Int×List UInt8)} (hL:WidL L) (hQ:WidQ Q):∀ k,k≤Q.length→WidL (flQ L Q k)
 |0,_=>hL
 |k+1,hk=>by
  intro l hl
  simp only [flQ] at hl
  rcases List.mem_or_eq_of_mem_set hl with h|h
  ·exact flQ_wid hL hQ k (by omega) l h
  ·rw [h];exact WidQ.at hQ (k:=(k:Int)) ⟨by omega,by omega⟩
theorem flCut (a:Int) (l:List UInt8) (h:l.length=128):unb (cellsV (Value.agg (List.take 128 (List.drop (0+1) (cellsV (penV a l)))).toArray))=l:=by
 rw [penCut a l h,unb_bv]
theorem flQ_succ {L:List (List UInt8)} {Q:List (Int×List UInt8)} {k:Nat} (h2:k<Q.length) (h3:WidQ Q):(flQ L Q k).set (Q.getD ((k:Int).toNat) (0,[])).1.toNat (unb (cellsV (Value.agg (List.take 128 (List.drop (0+1) (cellsV (penV (Q.getD ((k:Int).toNat) (0,[])).1 (Q.getD ((k:Int).toNat) (0,[])).2)))).toArray)))=flQ L Q (k+1):=by
 rw [flCut _ _ (WidQ.at h3 ⟨by omega,by omega⟩)]
 simp only [flQ,Int.toNat_natCast]
set_option maxRecDepth 100000 in
theorem flush_n (L:List (List UInt8)) (Q:List (Int×List UInt8)) (fu:Int) (fd off:Bool) (Lk Ln:List (List UInt8)) (k:Nat) (f:Nat→Value) (h0:decide ((k:Int)<(Q.length:Int))=true) (h1:IntKind.i64.wrap ((k:Int)+1)=((k+1:Nat):Int)) (h2:k<Q.length) (h3:WidQ Q) (h4:0≤(Q.getD ((k:Int).toNat) (0,[])).1∧(Q.getD ((k:Int).toNat) (0,[])).1.toNat<Lk.length) (h5:Lk.set (Q.getD ((k:Int).toNat) (0,[])).1.toNat (unb (cellsV (Value.agg (List.take 128 (List.drop (0+1) (cellsV (penV (Q.getD ((k:Int).toNat) (0,[])).1 (Q.getD ((k:Int).toNat) (0,[])).2)))).toArray)))=Ln):∃ qs,alN Id' 3 [(16,.c (.one (.v (.int .i64 ((k+1:Nat):Int)))))] [⟨.bx [.obj 1,.obj 2,.v (.int .i64 fu),.v (.bool fd),.v (.bool off)],true⟩,⟨.us (.ext (.flat (.secs Ln))),true⟩,⟨.us (.ext (.flat (.pens Q))),true⟩] ((symC (⟨Try.prog,[],[],dkHo,Id'.one,60⟩:Sy Td) [] 33 (hdC (loopsC (bodyOf Try.f11)) 0) ⟨[(16,.c (.one (.v (.int .i64 (k:Int)))))]++anyB' (writesC (hdC (loopsC (bodyOf Try.f11)) 0)) ([(0,.c (.one (.ptr 0 0))),(14,.c (.one (.obj 2))),(15,.c (.one (.v (.int .i64 (Q.length:Int)))))]++tabV f 33),[⟨.bx [.obj 1,.obj 2,.v (.int .i64 fu),.v (.bool fd),.v (.bool off)],true⟩,⟨.us (.ext (.flat (.secs Lk))),true⟩,⟨.us (.ext (.flat (.pens Q))),true⟩],0⟩).al [true])=some qs∧∀ q∈qs,q:=
 ⟨[decide ((↑k:Int)<(↑Q.length:Int))=true,(Value.int IntKind.i64 (0:Int)::List.replicate (128:Nat) (Value.int IntKind.u8 (0:Int))).length=(129:Nat),AggOk ((FL.pens Q).el (↑k:Int).toNat) 129,(0:Int)≤(↑k:Int)∧(↑k:Int).toNat<(FL.pens Q).n,AggOk (Value.agg (List.take (128:Nat) (List.drop (nat_lit 0+(1:Nat)) (cellsV ((FL.pens Q).el (↑k:Int).toNat)))).toArray) 128,cellsV (Value.agg (List.take (128:Nat) (List.drop (nat_lit 0+(1:Nat)) (cellsV ((FL.pens Q).el (↑k:Int).toNat)))).toArray)=(List.map bv (unb (cellsV (Value.agg (List.take (128:Nat) (List.drop (nat_lit 0+(1:Nat)) (cellsV ((FL.pens Q).el (↑k:Int).toNat)))).toArray)))),(0:Int)≤(Q.getD (↑k:Int).toNat ((0:Int),[])).fst∧(Q.getD (↑k:Int).toNat ((0:Int),[])).fst.toNat<(FL.secs Lk).n,nat_lit 0+(1:Nat)+(128:Nat)≤(cellsV ((FL.pens Q).el (↑k:Int).toNat)).length,(0:Nat)<(cellsV ((FL.pens Q).el (↑k:Int).toNat)).length,Value.int IntKind.i64 fu=Value.int IntKind.i64 fu,Value.bool fd=Value.bool fd,Value.bool off=Value.bool off,Th.ext (Dk.flat (FL.secs (List.set Lk (Q.getD (↑k:Int).toNat ((0:Int),[])).fst.toNat (unb (cellsV (Value.agg (List.take (128:Nat) (List.drop (nat_lit 0+(1:Nat)) (cellsV ((FL.pens Q).el (↑k:Int).toNat)))).toArray))))))=Th.ext (Dk.flat (FL.secs Ln)),Th.ext (Dk.flat (FL.pens Q))=Th.ext (Dk.flat (FL.pens Q)),Value.int IntKind.i64 (IntKind.i64.wrap ((↑k:Int)+(1:Int)))=Value.int IntKind.i64 (↑(k+(1:Nat)):Int)],by kernel_rfl,(by refine mcons ?_ (mcons ?_ (mcons ?_ (mcons ?_ (mcons ?_ (mcons ?_ (mcons ?_ (mcons ?_ (mcons ?_ (mcons ?_ (mcons ?_ (mcons ?_ (mcons ?_ (mcons ?_ (mcons ?_ mnil))))))))))))))<;>first|rfl|exact h0|exact h1|exact h2|exact h3|exact h4|exact h5|trivial|(exact ⟨by omega,by show (k:Int).toNat<Q.length;omega⟩)|(show AggOk (penV _ _) 129;exact aggOk_pen (WidQ.at h3 ⟨by omega,by omega⟩))|(show 0<(List.length (_::_));simp)|(show 0+1+128≤(cellsV (penV _ _)).length;rw [(aggOk_pen (WidQ.at h3 ⟨by omega,by omega⟩)).2.1];decide)|(show AggOk (Value.agg (List.take 128 (List.drop (0+1) (cellsV (penV _ _)))).toArray) 128;exact aggOk_cut _ _ (WidQ.at h3 ⟨by omega,by omega⟩))|(show cellsV (Value.agg (List.take 128 (List.drop (0+1) (cellsV (penV _ _)))).toArray)=(unb (cellsV (Value.agg (List.take 128 (List.drop (0+1) (cellsV (penV _ _)))).toArray))).map bv;rw [penCut _ _ (WidQ.at h3 ⟨by omega,by omega⟩),unb_bv])|(exact congrArg (fun x=>Th.ext (Dk.flat (FL.secs x))) h5)|(exact congrArg (fun x=>Th.ext (Dk.flat (FL.secs x))) h1)|(exact congrArg _ h1))⟩
set_option maxRecDepth 100000 in
theorem flush_x (L:List (List UInt8)) (Q:List (Int×List UInt8)) (fu:Int) (fd off:Bool) (Lk Ln:List (List UInt8)) (k:Nat) (f:Nat→Value) (h0:decide ((k:Int)<(Q.length:Int))=false) (h1:Lk=Ln):∃ qs,alX Id' 3 0 [] [⟨.bx [.obj 1,.obj 2,.v (.int .i64 fu),.v (.bool fd),.v (.bool off)],true⟩,⟨.us (.ext (.flat (.secs Ln))),true⟩,⟨.us (.ext (.flat (.pens Q))),true⟩] ((symC (⟨Try.prog,[],[],dkHo,Id'.one,60⟩:Sy Td) [] 33 (hdC (loopsC (bodyOf Try.f11)) 0) ⟨[(16,.c (.one (.v (.int .i64 (k:Int)))))]++anyB' (writesC (hdC (loopsC (bodyOf Try.f11)) 0)) ([(0,.c (.one (.ptr 0 0))),(14,.c (.one (.obj 2))),(15,.c (.one (.v (.int .i64 (Q.length:Int)))))]++tabV f 33),[⟨.bx [.obj 1,.obj 2,.v (.int .i64 fu),.v (.bool fd),.v (.bool off)],true⟩,⟨.us (.ext (.flat (.secs Lk))),true⟩,⟨.us (.ext (.flat (.pens Q))),true⟩],0⟩).al [false])=some qs∧∀ q∈qs,q:=
 ⟨[decide ((↑k:Int)<(↑Q.length:Int))=false,Value.int IntKind.i64 fu=Value.int IntKind.i64 fu,Value.bool fd=Value.bool fd,Value.bool off=Value.bool off,Th.ext (Dk.flat (FL.secs Lk))=Th.ext (Dk.flat (FL.secs Ln)),Th.ext (Dk.flat (FL.pens Q))=Th.ext (Dk.flat (FL.pens Q))],by kernel_rfl,(by refine mcons ?_ (mcons ?_ (mcons ?_ (mcons ?_ (mcons ?_ (mcons ?_ mnil)))))<;>first|rfl|exact h0|exact h1|trivial|(exact ⟨by omega,by show (k:Int).toNat<Q.length;omega⟩)|(show AggOk (penV _ _) 129;exact aggOk_pen (WidQ.at h3 ⟨by omega,by omega⟩))|(show 0<(List.length (_::_));simp)|(show 0+1+128≤(cellsV (penV _ _)).length;rw [(aggOk_pen (WidQ.at h3 ⟨by omega,by omega⟩)).2.1];decide)|(show AggOk (Value.agg (List.take 128 (List.drop (0+1) (cellsV (penV _ _)))).toArray) 128;exact aggOk_cut _ _ (WidQ.at h3 ⟨by omega,by omega⟩))|(show cellsV (Value.agg (List.take 128 (List.drop (0+1) (cellsV (penV _ _)))).toArray)=(unb (cellsV (Value.agg (List.take 128 (List.drop (0+1) (cellsV (penV _ _)))).toArray))).map bv;rw [penCut _ _ (WidQ.at h3 ⟨by omega,by omega⟩),unb_bv])|(exact congrArg (fun x=>Th.ext (Dk.flat (FL.secs x))) h5)|(exact congrArg (fun x=>Th.ext (Dk.flat (FL.secs x))) h1)|(exact congrArg _ h1))⟩
set_option maxRecDepth 100000 in
theorem flush_lp (L:List (List UInt8)) (Q:List (Int×List UInt8)) (fu:Int) (fd off:Bool) (hQ:WidQ Q) (hA:AtQ L.length Q) {W0:World} {G:Nat→Prop} (S0:Sy Td) (hS0:S0.P=Try.prog):LoopSound S0 Id' W0 G 33 (hdC (loopsC (bodyOf Try.f11)) 0) (lpG Id' 33 (hdC (loopsC (bodyOf Try.f11)) 0) 3 [(16,.c (.one (.v (.int .i64 ((0:Nat):Int)))))] [(0,.c (.one (.ptr 0 0))),(14,.c (.one (.obj 2))),(15,.c (.one (.v (.int .i64 (Q.length:Int)))))] [⟨.bx [.obj 1,.obj 2,.v (.int .i64 fu),.v (.bool fd),.v (.bool off)],true⟩,⟨.us (.ext (.flat (.secs (flQ L Q 0)))),true⟩,⟨.us (.ext (.flat (.pens Q))),true⟩] (.leaf (.exit 0) [] [⟨.bx [.obj 1,.obj 2,.v (.int .i64 fu),.v (.bool fd),.v (.bool off)],true⟩,⟨.us (.ext (.flat (.secs (flD L Q)))),true⟩,⟨.us (.ext (.flat (.pens Q))),true⟩])):=by
 refine lp_sound (V:=fun k=>[(16,.c (.one (.v (.int .i64 (k:Int)))))]) (M:=(fun k=>[⟨.bx [.obj 1,.obj 2,.v (.int .i64 fu),.v (.bool fd),.v (.bool off)],true⟩,⟨.us (.ext (.flat (.secs (flQ L Q k)))),true⟩,⟨.us (.ext (.flat (.pens Q))),true⟩]:Nat→Mem Td)) (N:=100000) (Ux:=fun k x=>match x with|.exit 0=>some ([],([⟨.bx [.obj 1,.obj 2,.v (.int .i64 fu),.v (.bool fd),.v (.bool off)],true⟩,⟨.us (.ext (.flat (.secs (flD L Q)))),true⟩,⟨.us (.ext (.flat (.pens Q))),true⟩]:Mem Td))|_=>none) (X:=fun _ _=>True) (J:=fun k=>k≤Q.length) (fun k=>by kernel_rfl) (Nat.zero_le _) (fun k hk hJ f=>?_) (fun K hK k x U hk hU hX=>?_)
 ·rw [hS0]
  cases hT:decide ((k:Int)<(Q.length:Int)) with
  |false=>
   have hk1:¬ k<Q.length:=by rw [ltNI hT];simp
   exact rnd_xD (⟨Try.prog,[],[],dkHo,Id'.one,60⟩:Sy Td) rfl ((fun (W0:World) (G:Nat→Prop)=>SyOk.mk2 Try.mixed dkHo_ok (FnsR.nil) EqsOk.nil) W0 G) (flush_x L Q fu fd off _ _ k f hT (by show flQ L Q k=flQ L Q Q.length;rw [show k=Q.length by omega])) rfl trivial
  |true=>
   have hk1:k<Q.length:=by rw [ltNI hT]
   have:=hQ.2
   have hW:IntKind.i64.wrap ((k:Int)+1)=((k+1:Nat):Int):=by rw [IntWalk.i64_in _ (by omega)];omega
   exact rnd_nD (⟨Try.prog,[],[],dkHo,Id'.one,60⟩:Sy Td) rfl ((fun (W0:World) (G:Nat→Prop)=>SyOk.mk2 Try.mixed dkHo_ok (FnsR.nil) EqsOk.nil) W0 G) (flush_n L Q fu fd off _ _ k f hT hW hk1 hQ (by rw [flQ_len];exact AtQ.at hA ⟨by omega,by omega⟩) (flQ_succ hk1 hQ)) rfl rfl (by omega) (by omega)
 ·revert hU
  match x with
  |.exit 0=>intro hU;simp only [Option.some.injEq] at hU;subst hU;exact hK
  |.normal=>intro hU;cases hU
  |.ret=>intro hU;cases hU
  |.exit (n+1)=>intro hU;cases hU
def flE (n:Int) (off fd:Bool) (fu:Int):Int:=bif n==0 then 1 else bif stOff off fd fu then 7 else 0
def flFu (n:Int) (off fd:Bool) (fu:Int):Int:=bif n==0 then fu else stFu off fd fu
def flOff (n:Int) (off fd:Bool) (fu:Int):Bool:=bif n==0 then off else stOff off fd fu
def flL (L:List (List UInt8)) (Q:List (Int×List UInt8)) (e:Int):List (List UInt8):=bif e==0 then flD L Q else L
def flP (Q:List (Int×List UInt8)) (e:Int):List (Int×List UInt8):=bif e==0 then [] else Q
theorem nil_pens {X:List (Int×List UInt8)} (h:X=[]):∀ w,Id'.holds (Th.ext (Dk.flat (FL.pens X)):Td) w nilV∧∀ j,¬ Id'.foot (Th.ext (Dk.flat (FL.pens X)):Td) w nilV j:=by
 subst h
 exact fun w=>⟨⟨(fun r hr=>by cases hr),0,Nat.zero_le _,owns_nilV w 0 _ _⟩,(fun j h=>by cases h)⟩
set_option maxRecDepth 100000 in
theorem flush_w0 (L:List (List UInt8)) (Q:List (Int×List UInt8)) (fu:Int) (fd off:Bool) (h0:((L.length:Int)==0)=true):∃ qs,wayO Id' ([⟨.bx [.obj 1,.obj 2,.v (.int .i64 fu),.v (.bool fd),.v (.bool off)],true⟩,⟨.us (.ext (.flat (.secs L))),true⟩,⟨.us (.ext (.flat (.pens Q))),true⟩]:Mem Td).length [⟨.bx [.obj 1,.obj 3,.v (.int .i64 (flFu (L.length:Int) off fd fu)),.v (.bool fd),.v (.bool (flOff (L.length:Int) off fd fu))],true⟩,⟨.us (.ext (.flat (.secs (flL L Q (flE (L.length:Int) off fd fu))))),true⟩,⟨.dead,true⟩,⟨.us (.ext (.flat (.pens (flP Q (flE (L.length:Int) off fd fu))))),true⟩] (svV (.int .i64 (flE (L.length:Int) off fd fu))) ((runFn (⟨Try.prog,[(33,ctrV C_size hardD),(40,ctrF Id' C_step hardD)],[],dkHo,Id'.one,60⟩:Sy Td) [(6,(lpG Id' 33 (hdC (loopsC (bodyOf Try.f11)) 0) 3 [(16,.c (.one (.v (.int .i64 ((0:Nat):Int)))))] [(0,.c (.one (.ptr 0 0))),(14,.c (.one (.obj 2))),(15,.c (.one (.v (.int .i64 (Q.length:Int)))))] [⟨.bx [.obj 1,.obj 2,.v (.int .i64 (stFu off fd fu)),.v (.bool fd),.v (.bool (stOff off fd fu))],true⟩,⟨.us (.ext (.flat (.secs (flQ L Q 0)))),true⟩,⟨.us (.ext (.flat (.pens Q))),true⟩] (.leaf (.exit 0) [] [⟨.bx [.obj 1,.obj 2,.v (.int .i64 (stFu off fd fu)),.v (.bool fd),.v (.bool (stOff off fd fu))],true⟩,⟨.us (.ext (.flat (.secs (flD L Q)))),true⟩,⟨.us (.ext (.flat (.pens Q))),true⟩])))] Try.f11 [.one (.ptr 0 0)] [⟨.bx [.obj 1,.obj 2,.v (.int .i64 fu),.v (.bool fd),.v (.bool off)],true⟩,⟨.us (.ext (.flat (.secs L))),true⟩,⟨.us (.ext (.flat (.pens Q))),true⟩]).al [true])=some qs∧∀ q∈qs,q:=
 ⟨[((↑L.length:Int)==(0:Int))=true,Value.int IntKind.i64 fu=Value.int IntKind.i64 (flFu (↑L.length:Int) off fd fu),Value.bool fd=Value.bool fd,Value.bool off=Value.bool (flOff (↑L.length:Int) off fd fu),Th.ext (Dk.flat (FL.secs L))=Th.ext (Dk.flat (FL.secs (flL L Q (flE (↑L.length:Int) off fd fu)))),Th.ext (Dk.flat (FL.pens Q))=Th.ext (Dk.flat (FL.pens (flP Q (flE (↑L.length:Int) off fd fu)))),Value.int IntKind.i64 (Int.ofNat 1)=Value.int IntKind.i64 (flE (↑L.length:Int) off fd fu)],by kernel_rfl,(by refine mcons ?_ (mcons ?_ (mcons ?_ (mcons ?_ (mcons ?_ (mcons ?_ (mcons ?_ mnil))))))<;>first|rfl|exact h0|trivial|(simp only [flE,flFu,flOff,flL,flP,h0,h1,cond_true,cond_false];done)|(simp only [flE,flFu,flOff,flL,flP,h0,h1,cond_true,cond_false];rfl)|(simp [flE,flFu,flOff,flL,flP,h0,h1];done)|(simp only [flE,flFu,flOff,flL,flP,h0,cond_true,cond_false];done)|(simp only [flE,flFu,flOff,flL,flP,h0,cond_true,cond_false];rfl)|(simp [flE,flFu,flOff,flL,flP,h0];done)|(exact nil_pens (by simp [flE,flP,h0,h1])))⟩
set_option maxRecDepth 100000 in
theorem flush_w1 (L:List (List UInt8)) (Q:List (Int×List UInt8)) (fu:Int) (fd off:Bool) (h0:((L.length:Int)==0)=false) (h1:stOff off fd fu=true):∃ qs,wayO Id' ([⟨.bx [.obj 1,.obj 2,.v (.int .i64 fu),.v (.bool fd),.v (.bool off)],true⟩,⟨.us (.ext (.flat (.secs L))),true⟩,⟨.us (.ext (.flat (.pens Q))),true⟩]:Mem Td).length [⟨.bx [.obj 1,.obj 3,.v (.int .i64 (flFu (L.length:Int) off fd fu)),.v (.bool fd),.v (.bool (flOff (L.length:Int) off fd fu))],true⟩,⟨.us (.ext (.flat (.secs (flL L Q (flE (L.length:Int) off fd fu))))),true⟩,⟨.dead,true⟩,⟨.us (.ext (.flat (.pens (flP Q (flE (L.length:Int) off fd fu))))),true⟩] (svV (.int .i64 (flE (L.length:Int) off fd fu))) ((runFn (⟨Try.prog,[(33,ctrV C_size hardD),(40,ctrF Id' C_step hardD)],[],dkHo,Id'.one,60⟩:Sy Td) [(6,(lpG Id' 33 (hdC (loopsC (bodyOf Try.f11)) 0) 3 [(16,.c (.one (.v (.int .i64 ((0:Nat):Int)))))] [(0,.c (.one (.ptr 0 0))),(14,.c (.one (.obj 2))),(15,.c (.one (.v (.int .i64 (Q.length:Int)))))] [⟨.bx [.obj 1,.obj 2,.v (.int .i64 (stFu off fd fu)),.v (.bool fd),.v (.bool (stOff off fd fu))],true⟩,⟨.us (.ext (.flat (.secs (flQ L Q 0)))),true⟩,⟨.us (.ext (.flat (.pens Q))),true⟩] (.leaf (.exit 0) [] [⟨.bx [.obj 1,.obj 2,.v (.int .i64 (stFu off fd fu)),.v (.bool fd),.v (.bool (stOff off fd fu))],true⟩,⟨.us (.ext (.flat (.secs (flD L Q)))),true⟩,⟨.us (.ext (.flat (.pens Q))),true⟩])))] Try.f11 [.one (.ptr 0 0)] [⟨.bx [.obj 1,.obj 2,.v (.int .i64 fu),.v (.bool fd),.v (.bool off)],true⟩,⟨.us (.ext (.flat (.secs L))),true⟩,⟨.us (.ext (.flat (.pens Q))),true⟩]).al [false,true])=some qs∧∀ q∈qs,q:=
 ⟨[((↑L.length:Int)==(0:Int))=false,(!!stOff off fd fu)=true,Value.int IntKind.i64 (stFu off fd fu)=Value.int IntKind.i64 (flFu (↑L.length:Int) off fd fu),Value.bool fd=Value.bool fd,Value.bool (stOff off fd fu)=Value.bool (flOff (↑L.length:Int) off fd fu),Th.ext (Dk.flat (FL.secs L))=Th.ext (Dk.flat (FL.secs (flL L Q (flE (↑L.length:Int) off fd fu)))),Th.ext (Dk.flat (FL.pens Q))=Th.ext (Dk.flat (FL.pens (flP Q (flE (↑L.length:Int) off fd fu)))),Value.int IntKind.i64 (Int.ofNat 7)=Value.int IntKind.i64 (flE (↑L.length:Int) off fd fu)],by kernel_rfl,(by refine mcons ?_ (mcons ?_ (mcons ?_ (mcons ?_ (mcons ?_ (mcons ?_ (mcons ?_ (mcons ?_ mnil)))))))<;>first|rfl|exact h0|exact h1|trivial|(simp only [flE,flFu,flOff,flL,flP,h0,h1,cond_true,cond_false];done)|(simp only [flE,flFu,flOff,flL,flP,h0,h1,cond_true,cond_false];rfl)|(simp [flE,flFu,flOff,flL,flP,h0,h1];done)|(simp only [flE,flFu,flOff,flL,flP,h0,cond_true,cond_false];done)|(simp only [flE,flFu,flOff,flL,flP,h0,cond_true,cond_false];rfl)|(simp [flE,flFu,flOff,flL,flP,h0];done)|(exact nil_pens (by simp [flE,flP,h0,h1])))⟩
set_option maxRecDepth 100000 in
theorem flush_w2 (L:List (List UInt8)) (Q:List (Int×List UInt8)) (fu:Int) (fd off:Bool) (h0:((L.length:Int)==0)=false) (h1:stOff off fd fu=false) (h2:WidQ Q):∃ qs,wayO Id' ([⟨.bx [.obj 1,.obj 2,.v (.int .i64 fu),.v (.bool fd),.v (.bool off)],true⟩,⟨.us (.ext (.flat (.secs L))),true⟩,⟨.us (.ext (.flat (.pens Q))),true⟩]:Mem Td).length [⟨.bx [.obj 1,.obj 3,.v (.int .i64 (flFu (L.length:Int) off fd fu)),.v (.bool fd),.v (.bool (flOff (L.length:Int) off fd fu))],true⟩,⟨.us (.ext (.flat (.secs (flL L Q (flE (L.length:Int) off fd fu))))),true⟩,⟨.dead,true⟩,⟨.us (.ext (.flat (.pens (flP Q (flE (L.length:Int) off fd fu))))),true⟩] (svV (.int .i64 (flE (L.length:Int) off fd fu))) ((runFn (⟨Try.prog,[(33,ctrV C_size hardD),(40,ctrF Id' C_step hardD)],[],dkHo,Id'.one,60⟩:Sy Td) [(6,(lpG Id' 33 (hdC (loopsC (bodyOf Try.f11)) 0) 3 [(16,.c (.one (.v (.int .i64 ((0:Nat):Int)))))] [(0,.c (.one (.ptr 0 0))),(14,.c (.one (.obj 2))),(15,.c (.one (.v (.int .i64 (Q.length:Int)))))] [⟨.bx [.obj 1,.obj 2,.v (.int .i64 (stFu off fd fu)),.v (.bool fd),.v (.bool (stOff off fd fu))],true⟩,⟨.us (.ext (.flat (.secs (flQ L Q 0)))),true⟩,⟨.us (.ext (.flat (.pens Q))),true⟩] (.leaf (.exit 0) [] [⟨.bx [.obj 1,.obj 2,.v (.int .i64 (stFu off fd fu)),.v (.bool fd),.v (.bool (stOff off fd fu))],true⟩,⟨.us (.ext (.flat (.secs (flD L Q)))),true⟩,⟨.us (.ext (.flat (.pens Q))),true⟩])))] Try.f11 [.one (.ptr 0 0)] [⟨.bx [.obj 1,.obj 2,.v (.int .i64 fu),.v (.bool fd),.v (.bool off)],true⟩,⟨.us (.ext (.flat (.secs L))),true⟩,⟨.us (.ext (.flat (.pens Q))),true⟩]).al [false,false])=some qs∧∀ q∈qs,q:=
 ⟨[((↑L.length:Int)==(0:Int))=false,(!!stOff off fd fu)=false,Value.int IntKind.i64 (↑(FL.pens Q).n:Int)=Value.int IntKind.i64 (↑Q.length:Int),Value.int IntKind.i64 (stFu off fd fu)=Value.int IntKind.i64 (stFu off fd fu),Value.bool fd=Value.bool fd,Value.bool (stOff off fd fu)=Value.bool (stOff off fd fu),Th.ext (Dk.flat (FL.secs L))=Th.ext (Dk.flat (FL.secs L)),Th.ext (Dk.flat (FL.pens Q))=Th.ext (Dk.flat (FL.pens Q)),Value.int IntKind.i64 (Int.ofNat 0)=Value.int IntKind.i64 (Int.ofNat (0:Nat)),Value.int IntKind.i64 (stFu off fd fu)=Value.int IntKind.i64 (flFu (↑L.length:Int) off fd fu),Value.bool fd=Value.bool fd,Value.bool (stOff off fd fu)=Value.bool (flOff (↑L.length:Int) off fd fu),Th.ext (Dk.flat (FL.secs (flD L Q)))=Th.ext (Dk.flat (FL.secs (flL L Q (flE (↑L.length:Int) off fd fu)))),∀ (w:World),Id'.holds (Th.ext (Dk.flat (FL.pens (flP Q (flE (↑L.length:Int) off fd fu))))) w nilV∧∀ (j:Nat),¬Id'.foot (Th.ext (Dk.flat (FL.pens (flP Q (flE (↑L.length:Int) off fd fu))))) w nilV j,Value.int IntKind.i64 (Int.ofNat 0)=Value.int IntKind.i64 (flE (↑L.length:Int) off fd fu)],by kernel_rfl,(by refine mcons ?_ (mcons ?_ (mcons ?_ (mcons ?_ (mcons ?_ (mcons ?_ (mcons ?_ (mcons ?_ (mcons ?_ (mcons ?_ (mcons ?_ (mcons ?_ (mcons ?_ (mcons ?_ (mcons ?_ mnil))))))))))))))<;>first|rfl|exact h0|exact h1|exact h2|trivial|(simp only [flE,flFu,flOff,flL,flP,h0,h1,cond_true,cond_false];done)|(simp only [flE,flFu,flOff,flL,flP,h0,h1,cond_true,cond_false];rfl)|(simp [flE,flFu,flOff,flL,flP,h0,h1];done)|(simp only [flE,flFu,flOff,flL,flP,h0,cond_true,cond_false];done)|(simp only [flE,flFu,flOff,flL,flP,h0,cond_true,cond_false];rfl)|(simp [flE,flFu,flOff,flL,flP,h0];done)|(exact nil_pens (by simp [flE,flP,h0,h1])))⟩
def C_flush:Ctr Td:=fun us sub=>match us,sub with
 |[.one (.ptr 0 0)],[⟨.bx [.obj 1,.obj 2,.v (.int .i64 fu),.v (.bool fd),.v (.bool off)],true⟩,⟨.us (.ext (.flat (.secs L))),true⟩,⟨.us (.ext (.flat (.pens Q))),true⟩]=>some ([WidQ Q,AtQ L.length Q],svV (.int .i64 (flE (L.length:Int) off fd fu)),[⟨.bx [.obj 1,.obj 3,.v (.int .i64 (flFu (L.length:Int) off fd fu)),.v (.bool fd),.v (.bool (flOff (L.length:Int) off fd fu))],true⟩,⟨.us (.ext (.flat (.secs (flL L Q (flE (L.length:Int) off fd fu))))),true⟩,⟨.dead,true⟩,⟨.us (.ext (.flat (.pens (flP Q (flE (L.length:Int) off fd fu))))),true⟩])
 |_,_=>none
set_option maxRecDepth 100000 in
theorem C_flush_ok:CtrOk Try.prog Id' 11 C_flush:=by
 intro us sub ps x sm h hp w e vs hM ha
 unfold C_flush at h
 split at h
 ·rename_i fu fd off L Q
  simp only [Option.some.injEq,Prod.mk.injEq] at h
  obtain ⟨rfl,rfl,rfl⟩:=h
  have hQ:WidQ Q:=hp _ (by simp)
  have hA:AtQ L.length Q:=hp _ (by simp)
  rcases Bool.eq_false_or_eq_true ((L.length:Int)==0) with h0|h0
  ·exact ctr_way (I:=Id') (fun (W0:World) (G:Nat→Prop)=>SyOk.mk2 Try.mixed dkHo_ok (FnsR.cons (R_size) (FnsR.cons (R_step) (FnsR.nil))) EqsOk.nil) rfl Try.func11 (by kernel_rfl) (fun _ _=>LpsOk.cons (by kernel_rfl) (flush_lp L Q (stFu off fd fu) fd (stOff off fd fu) hQ hA _ rfl) (LpsOk.nil _)) (cs:=[true]) (by kernel_rfl) (flush_w0 L Q fu fd off h0) w e vs hM ha
  ·rcases Bool.eq_false_or_eq_true (stOff off fd fu) with h1|h1
   ·exact ctr_way (I:=Id') (fun (W0:World) (G:Nat→Prop)=>SyOk.mk2 Try.mixed dkHo_ok (FnsR.cons (R_size) (FnsR.cons (R_step) (FnsR.nil))) EqsOk.nil) rfl Try.func11 (by kernel_rfl) (fun _ _=>LpsOk.cons (by kernel_rfl) (flush_lp L Q (stFu off fd fu) fd (stOff off fd fu) hQ hA _ rfl) (LpsOk.nil _)) (cs:=[false,true]) (by kernel_rfl) (flush_w1 L Q fu fd off h0 h1) w e vs hM ha
   ·exact ctr_way (I:=Id') (fun (W0:World) (G:Nat→Prop)=>SyOk.mk2 Try.mixed dkHo_ok (FnsR.cons (R_size) (FnsR.cons (R_step) (FnsR.nil))) EqsOk.nil) rfl Try.func11 (by kernel_rfl) (fun _ _=>LpsOk.cons (by kernel_rfl) (flush_lp L Q (stFu off fd fu) fd (stOff off fd fu) hQ hA _ rfl) (LpsOk.nil _)) (cs:=[false,false]) (by kernel_rfl) (flush_w2 L Q fu fd off h0 h1 hQ) w e vs hM ha
 ·cases h
theorem R_flush:RowOk Try.prog Id' hardD 11 (ctrF Id' C_flush hardD):=ctrF_ok Try.call11 C_flush_ok
end Go.Proofs.Ytonomiljclemnaa
set_option linter.unusedVariables false
set_option linter.unusedSimpArgs false
namespace Go.Proofs.Ytonomiljclemnaa
open Go.RowKit
def C_newB:Ctr Td:=fun us sub=>match us,sub with
 |[.one (.v (.int .i64 n))],[]=>some ([(decide (n<1)||decide (n>4096))=true],.tup [.one (.v (.pointer none)),.one (.kI .i64 2)],[])
 |_,_=>none
set_option maxRecDepth 100000 in
theorem newG_w0 (n:Int) (h0:(decide (n<1)||decide (n>4096))=false) (h1:(0:Int)≤n∧n≤100000):∃ qs,wayO Id' (([]:Mem Td):Mem Td).length [⟨.bx [.obj 1,.obj 2,.v (.int .i64 0),.v (.bool false),.v (.bool false)],true⟩,⟨.us (.ext (.flat (.secs (List.replicate n.toNat sec0)))),true⟩,⟨.us (.ext (.flat (.pens []))),true⟩] (.tup [.one (.ptr 0 0),.one (.kI .i64 0)]) ((runFn (⟨Try.prog,[],[],dkHo,Id'.one,60⟩:Sy Td) [] Try.f23 [.one (.v (.int .i64 n))] ([]:Mem Td)).al [false])=some qs∧∀ q∈qs,q:=
 ⟨[(decide (n<(1:Int))||decide (n>(4096:Int)))=false,n=n,(0:Int)≤n∧n≤(100000:Int),Value.int IntKind.i64 (Int.ofNat 0)=Value.int IntKind.i64 (Int.ofNat 0),Value.bool false=Value.bool false,Value.bool false=Value.bool false,Th.ext (Dk.flat (FL.secs (List.replicate n.toNat sec0)))=Th.ext (Dk.flat (FL.secs (List.replicate n.toNat sec0))),∀ (w:World),Id'.holds (Th.ext (Dk.flat (FL.pens []))) w nilV∧∀ (j:Nat),¬Id'.foot (Th.ext (Dk.flat (FL.pens []))) w nilV j,Value.int IntKind.i64 (Int.ofNat 0)=Value.int IntKind.i64 (Int.ofNat 0)],by kernel_rfl,(by refine mcons ?_ (mcons ?_ (mcons ?_ (mcons ?_ (mcons ?_ (mcons ?_ (mcons ?_ (mcons ?_ (mcons ?_ mnil))))))))<;>first|rfl|exact h0|exact h1|trivial|(exact nil_pens rfl))⟩
def C_newG:Ctr Td:=fun us sub=>match us,sub with
 |[.one (.v (.int .i64 n))],[]=>some ([1≤n∧n≤4096],.tup [.one (.ptr 0 0),.one (.kI .i64 0)],[⟨.bx [.obj 1,.obj 2,.v (.int .i64 0),.v (.bool false),.v (.bool false)],true⟩,⟨.us (.ext (.flat (.secs (List.replicate n.toNat sec0)))),true⟩,⟨.us (.ext (.flat (.pens []))),true⟩])
 |_,_=>none
set_option maxRecDepth 100000 in
theorem C_newG_ok:CtrOk Try.prog Id' 23 C_newG:=by
 intro us sub ps x sm h hp w e vs hM ha
 unfold C_newG at h
 split at h
 ·rename_i n
  simp only [Option.some.injEq,Prod.mk.injEq] at h
  obtain ⟨rfl,rfl,rfl⟩:=h
  have h:=hp _ (List.mem_cons_self ..)
  have h0:(decide (n<1)||decide (n>4096))=false:=by rw [decide_eq_false (by omega),decide_eq_false (by omega)];rfl
  have h1:(0:Int)≤n∧n≤100000:=by omega
  exact ctr_way (I:=Id') (fun (W0:World) (G:Nat→Prop)=>SyOk.mk2 Try.mixed dkHo_ok (FnsR.nil) EqsOk.nil) rfl Try.func23 (by kernel_rfl) (fun _ _=>LpsOk.nil _) (cs:=[false]) (by kernel_rfl) (newG_w0 n h0 h1) w e vs hM ha
 ·cases h
end Go.Proofs.Ytonomiljclemnaa
set_option linter.unusedVariables false
set_option linter.unusedSimpArgs false
namespace Go.Proofs.Ytonomiljclemnaa
open Go.RowKit
def kpI (q:Int) (i tn:Int) (ks:List Int):Int:=bif (i==IntKind.i64.wrap (q - 1)&&decide (tn>0)&&decide (tn<128)) then tn else bif (decide (i<(ks.length:Int))&&ks.getD i.toNat 0 != 0) then 128 else 0
set_option maxRecDepth 100000 in
theorem kept_w0 (L:List (List UInt8)) (Q:List (Int×List UInt8)) (fu:Int) (fd off:Bool) (i tn:Int) (ks:List Int) (h0:(i==IntKind.i64.wrap ((Q.length:Int) - 1)&&decide (tn>0)&&decide (tn<128))=true) (h1:0≤i):∃ qs,wayV ((runFn (⟨Try.prog,[],[],dkHo,Id'.one,60⟩:Sy Td) [] Try.f42 [.one (.ptr 0 0),.one (.v (.int .i64 i)),.one (.obj 1),.one (.v (.int .i64 tn))] (roM [⟨.bx [.obj 2,.obj 3,.v (.int .i64 fu),.v (.bool fd),.v (.bool off)],true⟩,⟨.us (.ext (.nums ks)),true⟩,⟨.us (.ext (.flat (.secs L))),true⟩,⟨.us (.ext (.flat (.pens Q))),true⟩])).al [true]) (fun u=>u=.int .i64 (kpI (Q.length:Int) i tn ks))=some qs∧∀ q∈qs,q:=
 ⟨[Value.int IntKind.i64 tn=Value.int IntKind.i64 (kpI (↑Q.length:Int) i tn ks),(i==IntKind.i64.wrap ((↑(FL.pens Q).n:Int) - (1:Int))&&decide (tn>(0:Int))&&decide (tn<(128:Int)))=true],by kernel_rfl,(by refine mcons ?_ (mcons ?_ mnil)<;>first|rfl|exact h0|exact h1|trivial|(exact fun h=>⟨by omega,by simp only [decide_eq_true_eq] at h;show i.toNat<ks.length;omega⟩)|(simp only [kpI,h0,h1,h2,cond_true,cond_false];done)|(simp only [kpI,h0,h1,h2,cond_true,cond_false];rfl)|(simp [kpI,h0,h1,h2];done)|(simp only [kpI,h0,h1,cond_true,cond_false];done)|(simp only [kpI,h0,h1,cond_true,cond_false];rfl)|(simp [kpI,h0,h1];done)|(simp only [kpI,h0,cond_true,cond_false];done)|(simp only [kpI,h0,cond_true,cond_false];rfl)|(simp [kpI,h0];done))⟩
set_option maxRecDepth 100000 in
theorem kept_w1 (L:List (List UInt8)) (Q:List (Int×List UInt8)) (fu:Int) (fd off:Bool) (i tn:Int) (ks:List Int) (h0:(i==IntKind.i64.wrap ((Q.length:Int) - 1)&&decide (tn>0)&&decide (tn<128))=false) (h1:(decide (i<(ks.length:Int))&&ks.getD i.toNat 0 != 0)=true) (h2:0≤i):∃ qs,wayV ((runFn (⟨Try.prog,[],[],dkHo,Id'.one,60⟩:Sy Td) [] Try.f42 [.one (.ptr 0 0),.one (.v (.int .i64 i)),.one (.obj 1),.one (.v (.int .i64 tn))] (roM [⟨.bx [.obj 2,.obj 3,.v (.int .i64 fu),.v (.bool fd),.v (.bool off)],true⟩,⟨.us (.ext (.nums ks)),true⟩,⟨.us (.ext (.flat (.secs L))),true⟩,⟨.us (.ext (.flat (.pens Q))),true⟩])).al [false,true]) (fun u=>u=.int .i64 (kpI (Q.length:Int) i tn ks))=some qs∧∀ q∈qs,q:=
 ⟨[Value.int IntKind.i64 (Int.ofNat 128)=Value.int IntKind.i64 (kpI (↑Q.length:Int) i tn ks),(i==IntKind.i64.wrap ((↑(FL.pens Q).n:Int) - (1:Int))&&decide (tn>(0:Int))&&decide (tn<(128:Int)))=false,(decide (i<(↑ks.length:Int))&&true)=true→(0:Int)≤i∧i.toNat<ks.length,(decide (i<(↑ks.length:Int))&&ks.getD i.toNat (0:Int) != (0:Int))=true],by kernel_rfl,(by refine mcons ?_ (mcons ?_ (mcons ?_ (mcons ?_ mnil)))<;>first|rfl|exact h0|exact h1|exact h2|trivial|(exact fun h=>⟨by omega,by simp only [decide_eq_true_eq] at h;show i.toNat<ks.length;omega⟩)|(simp only [kpI,h0,h1,h2,cond_true,cond_false];done)|(simp only [kpI,h0,h1,h2,cond_true,cond_false];rfl)|(simp [kpI,h0,h1,h2];done)|(simp only [kpI,h0,h1,cond_true,cond_false];done)|(simp only [kpI,h0,h1,cond_true,cond_false];rfl)|(simp [kpI,h0,h1];done)|(simp only [kpI,h0,cond_true,cond_false];done)|(simp only [kpI,h0,cond_true,cond_false];rfl)|(simp [kpI,h0];done))⟩
set_option maxRecDepth 100000 in
theorem kept_w2 (L:List (List UInt8)) (Q:List (Int×List UInt8)) (fu:Int) (fd off:Bool) (i tn:Int) (ks:List Int) (h0:(i==IntKind.i64.wrap ((Q.length:Int) - 1)&&decide (tn>0)&&decide (tn<128))=false) (h1:(decide (i<(ks.length:Int))&&ks.getD i.toNat 0 != 0)=false) (h2:0≤i):∃ qs,wayV ((runFn (⟨Try.prog,[],[],dkHo,Id'.one,60⟩:Sy Td) [] Try.f42 [.one (.ptr 0 0),.one (.v (.int .i64 i)),.one (.obj 1),.one (.v (.int .i64 tn))] (roM [⟨.bx [.obj 2,.obj 3,.v (.int .i64 fu),.v (.bool fd),.v (.bool off)],true⟩,⟨.us (.ext (.nums ks)),true⟩,⟨.us (.ext (.flat (.secs L))),true⟩,⟨.us (.ext (.flat (.pens Q))),true⟩])).al [false,false]) (fun u=>u=.int .i64 (kpI (Q.length:Int) i tn ks))=some qs∧∀ q∈qs,q:=
 ⟨[Value.int IntKind.i64 (Int.ofNat 0)=Value.int IntKind.i64 (kpI (↑Q.length:Int) i tn ks),(i==IntKind.i64.wrap ((↑(FL.pens Q).n:Int) - (1:Int))&&decide (tn>(0:Int))&&decide (tn<(128:Int)))=false,(decide (i<(↑ks.length:Int))&&true)=true→(0:Int)≤i∧i.toNat<ks.length,(decide (i<(↑ks.length:Int))&&ks.getD i.toNat (0:Int) != (0:Int))=false],by kernel_rfl,(by refine mcons ?_ (mcons ?_ (mcons ?_ (mcons ?_ mnil)))<;>first|rfl|exact h0|exact h1|exact h2|trivial|(exact fun h=>⟨by omega,by simp only [decide_eq_true_eq] at h;show i.toNat<ks.length;omega⟩)|(simp only [kpI,h0,h1,h2,cond_true,cond_false];done)|(simp only [kpI,h0,h1,h2,cond_true,cond_false];rfl)|(simp [kpI,h0,h1,h2];done)|(simp only [kpI,h0,h1,cond_true,cond_false];done)|(simp only [kpI,h0,h1,cond_true,cond_false];rfl)|(simp [kpI,h0,h1];done)|(simp only [kpI,h0,cond_true,cond_false];done)|(simp only [kpI,h0,cond_true,cond_false];rfl)|(simp [kpI,h0];done))⟩
def C_kept:CtrV Td:=fun us sub=>match us,sub with
 |[.one (.ptr 0 0),.one (.v (.int .i64 i)),.one (.obj 1),.one (.v (.int .i64 tn))],[⟨.bx [.obj 2,.obj 3,.v (.int .i64 fu),.v (.bool fd),.v (.bool off)],false⟩,⟨.us (.ext (.nums ks)),false⟩,⟨.us (.ext (.flat (.secs L))),false⟩,⟨.us (.ext (.flat (.pens Q))),false⟩]=>some ([0≤i],.int .i64 (kpI (Q.length:Int) i tn ks))
 |_,_=>none
set_option maxRecDepth 100000 in
theorem C_kept_ok:CtrVOk Try.prog Id' 42 C_kept:=by
 intro us sub ps x h hp w e vs hM ha
 unfold C_kept at h
 split at h
 ·rename_i i tn fu fd off ks L Q
  simp only [Option.some.injEq,Prod.mk.injEq] at h
  obtain ⟨rfl,rfl⟩:=h
  have hi:0≤i:=hp _ (List.mem_cons_self ..)
  rcases Bool.eq_false_or_eq_true ((i==IntKind.i64.wrap ((Q.length:Int) - 1)&&decide (tn>0)&&decide (tn<128))) with h0|h0
  ·exact ctrv_way (I:=Id') (fun (W0:World) (G:Nat→Prop)=>SyOk.mk2 Try.mixed dkHo_ok (FnsR.nil) EqsOk.nil) rfl Try.func42 (by kernel_rfl) (fun _ _=>LpsOk.nil _) (cs:=[true]) (by kernel_rfl) (kept_w0 L Q fu fd off i tn ks h0 hi) w e vs hM ha
  ·rcases Bool.eq_false_or_eq_true ((decide (i<(ks.length:Int))&&ks.getD i.toNat 0 != 0)) with h1|h1
   ·exact ctrv_way (I:=Id') (fun (W0:World) (G:Nat→Prop)=>SyOk.mk2 Try.mixed dkHo_ok (FnsR.nil) EqsOk.nil) rfl Try.func42 (by kernel_rfl) (fun _ _=>LpsOk.nil _) (cs:=[false,true]) (by kernel_rfl) (kept_w1 L Q fu fd off i tn ks h0 h1 hi) w e vs hM ha
   ·exact ctrv_way (I:=Id') (fun (W0:World) (G:Nat→Prop)=>SyOk.mk2 Try.mixed dkHo_ok (FnsR.nil) EqsOk.nil) rfl Try.func42 (by kernel_rfl) (fun _ _=>LpsOk.nil _) (cs:=[false,false]) (by kernel_rfl) (kept_w2 L Q fu fd off i tn ks h0 h1 hi) w e vs hM ha
 ·cases h
theorem R_kept:RowOk Try.prog Id' hardD 42 (ctrV C_kept hardD):=ctrV_ok Try.call42 C_kept_ok
end Go.Proofs.Ytonomiljclemnaa
set_option linter.unusedVariables false
set_option linter.unusedSimpArgs false
namespace Go.Proofs.Ytonomiljclemnaa
open Go.RowKit
def sectO (b:List UInt8):List UInt8:=b.take 128++List.replicate (128 - b.length) 0
set_option maxRecDepth 100000 in
theorem rcopy_w0 (b:List UInt8) (h0:b.length≤1000000):∃ qs,wayO Id' (([⟨.us (.byt b),false⟩]:Mem Td):Mem Td).length [⟨.us (.byt b),false⟩,⟨.us (.own b),true⟩] (.c (.one (.obj 1))) ((runFn (⟨Try.prog,[],[],dkHo,Id'.one,60⟩:Sy Td) [] Try.f25 [.one (.obj 0)] ([⟨.us (.byt b),false⟩]:Mem Td)).al [])=some qs∧∀ q∈qs,q:=
 ⟨[b.length≤(1000000:Nat),(Th.byt b:Td)=Th.byt b,(Th.own b:Td)=Th.own b],by kernel_rfl,(by refine mcons ?_ (mcons ?_ (mcons ?_ mnil))<;>first|rfl|exact h0|trivial)⟩
def C_rcopy:Ctr Td:=fun us sub=>match us,sub with
 |[.one (.obj 0)],[⟨.us (.byt b),false⟩]=>some ([b.length≤1000000],.c (.one (.obj 1)),[⟨.us (.byt b),false⟩,⟨.us (.own b),true⟩])
 |_,_=>none
set_option maxRecDepth 100000 in
theorem C_rcopy_ok:CtrOk Try.prog Id' 25 C_rcopy:=by
 intro us sub ps x sm h hp w e vs hM ha
 unfold C_rcopy at h
 split at h
 ·rename_i b
  simp only [Option.some.injEq,Prod.mk.injEq] at h
  obtain ⟨rfl,rfl,rfl⟩:=h
  exact ctr_way (I:=Id') (fun (W0:World) (G:Nat→Prop)=>SyOk.mk2 Try.mixed dkHo_ok (FnsR.nil) EqsOk.nil) rfl Try.func25 (by kernel_rfl) (fun _ _=>LpsOk.nil _) (cs:=[]) (by kernel_rfl) (rcopy_w0 b (hp _ (List.mem_cons_self ..))) w e vs hM ha
 ·cases h
theorem R_rcopy:RowOk Try.prog Id' hardD 25 (ctrF Id' C_rcopy hardD):=ctrF_ok Try.call25 C_rcopy_ok
theorem sect_yes {b:List UInt8} {k:Nat} (h:decide (((b.take 128++List.replicate k 0).length:Int)<128)=true):k<128:=by
 simp at h;omega
theorem sect_no {b:List UInt8} {k:Nat} (hk:k≤128 - b.length) (h:decide (((b.take 128++List.replicate k 0).length:Int)<128)=false):b.take 128++List.replicate k 0=sectO b:=by
 have:k=128 - b.length:=by simp at h;omega
 rw [this];rfl
set_option maxRecDepth 100000 in
theorem sect_n (b:List UInt8) (d dn:List UInt8) (k:Nat) (f:Nat→Value) (h0:decide ((d.length:Int)<128)=true) (h1:d++[0]=dn):∃ qs,alN Id' 3 [(3,.c (.one (.obj 3)))] [⟨.us (.byt b),false⟩,⟨.dead,true⟩,⟨.dead,true⟩,⟨.us (.own dn),true⟩] ((symC (⟨Try.prog,[],[],dkHo,Id'.one,60⟩:Sy Td) [] 14 (hdC (loopsC (bodyOf Try.f14)) 0) ⟨[(3,.c (.one (.obj 3)))]++anyB' (writesC (hdC (loopsC (bodyOf Try.f14)) 0)) ([]++tabV f 14),[⟨.us (.byt b),false⟩,⟨.dead,true⟩,⟨.dead,true⟩,⟨.us (.own d),true⟩],0⟩).al [true])=some qs∧∀ q∈qs,q:=
 ⟨[decide ((↑d.length:Int)<(128:Int))=true,d.length+[UInt8.ofNat (Int.toNat (0:Int))].length≤(1000000:Nat),(0:Int)≤(0:Int)∧(0:Int)<(256:Int),(Th.byt b:Td)=Th.byt b,(Th.own (d++[UInt8.ofNat (Int.toNat (0:Int))]):Td)=Th.own dn],by kernel_rfl,(by refine mcons ?_ (mcons ?_ (mcons ?_ (mcons ?_ (mcons ?_ mnil))))<;>first|rfl|exact h0|exact h1|trivial|(show d.length+1≤1000000;simp at h0;omega)|(exact congrArg Th.own h1)|(exact ⟨by decide,by decide⟩))⟩
set_option maxRecDepth 100000 in
theorem sect_x (b:List UInt8) (d dn:List UInt8) (k:Nat) (f:Nat→Value) (h0:decide ((d.length:Int)<128)=false) (h1:d=dn):∃ qs,alX Id' 3 0 [(3,.c (.one (.obj 3)))] [⟨.us (.byt b),false⟩,⟨.dead,true⟩,⟨.dead,true⟩,⟨.us (.own dn),true⟩] ((symC (⟨Try.prog,[],[],dkHo,Id'.one,60⟩:Sy Td) [] 14 (hdC (loopsC (bodyOf Try.f14)) 0) ⟨[(3,.c (.one (.obj 3)))]++anyB' (writesC (hdC (loopsC (bodyOf Try.f14)) 0)) ([]++tabV f 14),[⟨.us (.byt b),false⟩,⟨.dead,true⟩,⟨.dead,true⟩,⟨.us (.own d),true⟩],0⟩).al [false])=some qs∧∀ q∈qs,q:=
 ⟨[decide ((↑d.length:Int)<(128:Int))=false,(Th.byt b:Td)=Th.byt b,(Th.own d:Td)=Th.own dn],by kernel_rfl,(by refine mcons ?_ (mcons ?_ (mcons ?_ mnil))<;>first|rfl|exact h0|exact h1|trivial|(show d.length+1≤1000000;simp at h0;omega)|(exact congrArg Th.own h1)|(exact ⟨by decide,by decide⟩))⟩
set_option maxRecDepth 100000 in
theorem sect_lp (b:List UInt8)  {W0:World} {G:Nat→Prop} (S0:Sy Td) (hS0:S0.P=Try.prog):LoopSound S0 Id' W0 G 14 (hdC (loopsC (bodyOf Try.f14)) 0) (lpG Id' 14 (hdC (loopsC (bodyOf Try.f14)) 0) 3 [(3,.c (.one (.obj 3)))] [] [⟨.us (.byt b),false⟩,⟨.dead,true⟩,⟨.dead,true⟩,⟨.us (.own (b.take 128++List.replicate 0 0)),true⟩] (.leaf (.exit 0) [(3,.c (.one (.obj 3)))] [⟨.us (.byt b),false⟩,⟨.dead,true⟩,⟨.dead,true⟩,⟨.us (.own (sectO b)),true⟩])):=by
 refine lp_sound (V:=fun k=>[(3,.c (.one (.obj 3)))]) (M:=(fun k=>[⟨.us (.byt b),false⟩,⟨.dead,true⟩,⟨.dead,true⟩,⟨.us (.own (b.take 128++List.replicate k 0)),true⟩]:Nat→Mem Td)) (N:=129) (Ux:=fun k x=>match x with|.exit 0=>some ([(3,.c (.one (.obj 3)))],([⟨.us (.byt b),false⟩,⟨.dead,true⟩,⟨.dead,true⟩,⟨.us (.own (sectO b)),true⟩]:Mem Td))|_=>none) (X:=fun _ _=>True) (J:=fun k=>k≤128 - b.length) (fun k=>by kernel_rfl) (Nat.zero_le _) (fun k hk hJ f=>?_) (fun K hK k x U hk hU hX=>?_)
 ·rw [hS0]
  cases hT:decide (((b.take 128++List.replicate k 0).length:Int)<128) with
  |false=>exact rnd_xD (⟨Try.prog,[],[],dkHo,Id'.one,60⟩:Sy Td) rfl ((fun (W0:World) (G:Nat→Prop)=>SyOk.mk2 Try.mixed dkHo_ok (FnsR.nil) EqsOk.nil) W0 G) (sect_x b _ _ k f hT (sect_no hJ hT)) rfl trivial
  |true=>
   have hk1:=sect_yes hT
   exact rnd_nD (⟨Try.prog,[],[],dkHo,Id'.one,60⟩:Sy Td) rfl ((fun (W0:World) (G:Nat→Prop)=>SyOk.mk2 Try.mixed dkHo_ok (FnsR.nil) EqsOk.nil) W0 G) (sect_n b _ _ k f hT (by rw [List.append_assoc,←List.replicate_succ'])) rfl rfl (by omega) (by simp at hT;omega)
 ·revert hU
  match x with
  |.exit 0=>intro hU;simp only [Option.some.injEq] at hU;subst hU;exact hK
  |.normal=>intro hU;cases hU
  |.ret=>intro hU;cases hU
  |.exit (n+1)=>intro hU;cases hU
set_option maxRecDepth 100000 in
theorem sect_w0 (b:List UInt8) :∃ qs,wayO Id' (([⟨.us (.byt b),false⟩]:Mem Td):Mem Td).length [⟨.us (.byt b),false⟩,⟨.us (.own (sectO b)),true⟩] (.c (.one (.obj 1))) ((runFn (⟨Try.prog,[(F_rcut:Nat×Fn2 Td),(25,ctrF Id' C_rcopy hardD)],[],dkHo,Id'.one,60⟩:Sy Td) [(2,(lpG Id' 14 (hdC (loopsC (bodyOf Try.f14)) 0) 3 [(3,.c (.one (.obj 3)))] [] [⟨.us (.byt b),false⟩,⟨.dead,true⟩,⟨.dead,true⟩,⟨.us (.own (b.take 128++List.replicate 0 0)),true⟩] (.leaf (.exit 0) [(3,.c (.one (.obj 3)))] [⟨.us (.byt b),false⟩,⟨.dead,true⟩,⟨.dead,true⟩,⟨.us (.own (sectO b)),true⟩])))] Try.f14 [.one (.obj 0)] ([⟨.us (.byt b),false⟩]:Mem Td)).al [])=some qs∧∀ q∈qs,q:=
 ⟨[(List.take 128 b).length≤(1000000:Nat),nat_lit 128≤(9223372036854775807:Nat),(Th.byt b:Td)=Th.byt b,(Th.own (List.take 128 b):Td)=Th.own ((List.take (128:Nat) b)++(List.replicate (0:Nat) (0:UInt8))),(Th.byt b:Td)=Th.byt b,(Th.own ((List.take (128:Nat) b)++(List.replicate ((128:Nat) - b.length) (0:UInt8))):Td)=Th.own ((List.take (128:Nat) b)++(List.replicate ((128:Nat) - b.length) (0:UInt8)))],by kernel_rfl,(by refine mcons ?_ (mcons ?_ (mcons ?_ (mcons ?_ (mcons ?_ (mcons ?_ mnil)))))<;>first|rfl|trivial|(show (Th.own (b.take 128):Td)=Th.own (b.take 128++List.replicate 0 0);rw [List.replicate_zero,List.append_nil])|(show 128≤9223372036854775807;decide)|(show (b.take 128).length≤1000000;simp;omega))⟩
def C_sect:Ctr Td:=fun us sub=>match us,sub with
 |[.one (.obj 0)],[⟨.us (.byt b),false⟩]=>some ([],.c (.one (.obj 1)),[⟨.us (.byt b),false⟩,⟨.us (.own (sectO b)),true⟩])
 |_,_=>none
set_option maxRecDepth 100000 in
theorem C_sect_ok:CtrOk Try.prog Id' 14 C_sect:=by
 intro us sub ps x sm h hp w e vs hM ha
 unfold C_sect at h
 split at h
 ·rename_i b
  simp only [Option.some.injEq,Prod.mk.injEq] at h
  obtain ⟨rfl,rfl,rfl⟩:=h
  exact ctr_way (I:=Id') (fun (W0:World) (G:Nat→Prop)=>SyOk.mk2 Try.mixed dkHo_ok (FnsR.cons (F_rcut_ok (J:=dkI) (hx:=hardDk)) (FnsR.cons (R_rcopy) (FnsR.nil))) EqsOk.nil) rfl Try.func14 (by kernel_rfl) (fun _ _=>LpsOk.cons (by kernel_rfl) (sect_lp b _ rfl) (LpsOk.nil _)) (cs:=[]) (by kernel_rfl) (sect_w0 b ) w e vs hM ha
 ·cases h
theorem R_sect:RowOk Try.prog Id' hardD 14 (ctrF Id' C_sect hardD):=ctrF_ok Try.call14 C_sect_ok
end Go.Proofs.Ytonomiljclemnaa
set_option linter.unusedVariables false
set_option linter.unusedSimpArgs false
namespace Go.Proofs.Ytonomiljclemnaa
open Go.RowKit
set_option maxRecDepth 100000 in
theorem rcopyO_w0 (b:List UInt8) (h0:b.length≤1000000):∃ qs,wayO Id' (([⟨.us (.own b),true⟩]:Mem Td):Mem Td).length [⟨.us (.own b),true⟩,⟨.us (.own b),true⟩] (.c (.one (.obj 1))) ((runFn (⟨Try.prog,[],[],dkHo,Id'.one,60⟩:Sy Td) [] Try.f25 [.one (.obj 0)] ([⟨.us (.own b),true⟩]:Mem Td)).al [])=some qs∧∀ q∈qs,q:=
 ⟨[b.length≤(1000000:Nat),(Th.own b:Td)=Th.own b,(Th.own b:Td)=Th.own b],by kernel_rfl,(by refine mcons ?_ (mcons ?_ (mcons ?_ mnil))<;>first|rfl|exact h0|trivial)⟩
def C_rcopyO:Ctr Td:=fun us sub=>match us,sub with
 |[.one (.obj 0)],[⟨.us (.own b),true⟩]=>some ([b.length≤1000000],.c (.one (.obj 1)),[⟨.us (.own b),true⟩,⟨.us (.own b),true⟩])
 |_,_=>none
set_option maxRecDepth 100000 in
theorem C_rcopyO_ok:CtrOk Try.prog Id' 25 C_rcopyO:=by
 intro us sub ps x sm h hp w e vs hM ha
 unfold C_rcopyO at h
 split at h
 ·rename_i b
  simp only [Option.some.injEq,Prod.mk.injEq] at h
  obtain ⟨rfl,rfl,rfl⟩:=h
  exact ctr_way (I:=Id') (fun (W0:World) (G:Nat→Prop)=>SyOk.mk2 Try.mixed dkHo_ok (FnsR.nil) EqsOk.nil) rfl Try.func25 (by kernel_rfl) (fun _ _=>LpsOk.nil _) (cs:=[]) (by kernel_rfl) (rcopyO_w0 b (hp _ (List.mem_cons_self ..))) w e vs hM ha
 ·cases h
theorem R_rcopyO:RowOk Try.prog Id' hardD 25 (ctrF Id' C_rcopyO hardD):=ctrF_ok Try.call25 C_rcopyO_ok
end Go.Proofs.Ytonomiljclemnaa
set_option linter.unusedVariables false
set_option linter.unusedSimpArgs false
namespace Go.Proofs.Ytonomiljclemnaa
open Go.RowKit
end Go.Proofs.Ytonomiljclemnaa
set_option linter.unusedVariables false
set_option linter.unusedSimpArgs false
namespace Go.Proofs.Ytonomiljclemnaa
open Go.RowKit
end Go.Proofs.Ytonomiljclemnaa
set_option linter.unusedVariables false
set_option linter.unusedSimpArgs false
namespace Go.Proofs.Ytonomiljclemnaa
open Go.RowKit
def crN (Q:List (Int×List UInt8)) (ks:List Int) (tn:Int) (k:Nat):Nat:=(kpI (Q.length:Int) (k:Int) tn ks).toNat
def crQ (L:List (List UInt8)) (Q:List (Int×List UInt8)) (ks:List Int) (tn:Int):Nat→List (List UInt8)
 |0=>L
 |k+1=>(crQ L Q ks tn k).set (Q.getD k (0,[])).1.toNat ((Q.getD k (0,[])).2.take (crN Q ks tn k)++((crQ L Q ks tn k).getD (Q.getD k (0,[])).1.toNat []).drop (crN Q ks tn k))
def crD (L:List (List UInt8)) (Q:List (Int×List UInt8)) (ks:List Int) (tn:Int):List (List UInt8):=crQ L Q ks tn Q.length
theorem kpI_in (q i tn:Int) (ks:List Int):0≤kpI q i tn ks∧kpI q i tn ks≤128:=by
 unfold kpI
 cases h:(i==IntKind.i64.wrap (q - 1)&&decide (tn>0)&&decide (tn<128)) with
 |true=>simp at h;simp;omega
 |false=>cases h2:(decide (i<(ks.length:Int))&&ks.getD i.toNat 0 != 0)<;>simp
theorem crCut (a:Int) (l:List UInt8) (n:Nat):List.take n (List.drop (0+1) (cellsV (penV a l)))=(l.take n).map bv:=by
 simp [cellsV,penV,List.map_take]
theorem crCut2 (a:Int) (l:List UInt8) (n:Nat):List.take n (List.drop (0+1) (cellsV (penV a l)))=(unb (List.take n (List.drop (0+1) (cellsV (penV a l))))).map bv:=by
 rw [crCut,unb_bv]
theorem crQ_len (L:List (List UInt8)) (Q:List (Int×List UInt8)) (ks:List Int) (tn:Int):∀ k,(crQ L Q ks tn k).length=L.length
 |0=>rfl
 |k+1=>by simp only [crQ,List.length_set];exact crQ_len L Q ks tn k
theorem crQ_succ {L:List (List UInt8)} {Q:List (Int×List UInt8)} {ks:List Int} {tn:Int} {k:Nat}:(crQ L Q ks tn k).set (Q.getD ((k:Int).toNat) (0,[])).1.toNat (unb (List.take (kpI (Q.length:Int) (k:Int) tn ks).toNat (List.drop (0+1) (cellsV ((FL.pens Q).el ((k:Int).toNat)))))++List.drop (kpI (Q.length:Int) (k:Int) tn ks).toNat ((crQ L Q ks tn k).getD (Q.getD ((k:Int).toNat) (0,[])).1.toNat []))=crQ L Q ks tn (k+1):=by
 have:(FL.pens Q).el ((k:Int).toNat)=penV (Q.getD ((k:Int).toNat) (0,[])).1 (Q.getD ((k:Int).toNat) (0,[])).2:=rfl
 rw [this,crCut,unb_bv]
 rfl
set_option maxRecDepth 100000 in
theorem crash_n (L:List (List UInt8)) (Q:List (Int×List UInt8)) (fu:Int) (fd off:Bool) (ks:List Int) (tn:Int) (Lk Ln:List (List UInt8)) (k:Nat) (f:Nat→Value) (h0:decide ((k:Int)<(Q.length:Int))=true) (h1:IntKind.i64.wrap ((k:Int)+1)=((k+1:Nat):Int)) (h2:k<Q.length) (h3:WidQ Q) (h4:0≤(Q.getD ((k:Int).toNat) (0,[])).1∧(Q.getD ((k:Int).toNat) (0,[])).1.toNat<Lk.length) (h5:0≤(kpI (Q.length:Int) (k:Int) tn ks)∧(kpI (Q.length:Int) (k:Int) tn ks)≤128) (h6:Lk.set (Q.getD ((k:Int).toNat) (0,[])).1.toNat (unb (List.take (kpI (Q.length:Int) (k:Int) tn ks).toNat (List.drop (0+1) (cellsV ((FL.pens Q).el ((k:Int).toNat)))))++List.drop (kpI (Q.length:Int) (k:Int) tn ks).toNat (Lk.getD (Q.getD ((k:Int).toNat) (0,[])).1.toNat []))=Ln):∃ qs,alN Id' 4 [(16,.c (.one (.v (.int .i64 ((k+1:Nat):Int)))))] [⟨.bx [.obj 2,.obj 3,.v (.int .i64 fu),.v (.bool fd),.v (.bool off)],true⟩,⟨.us (.ext (.nums ks)),false⟩,⟨.us (.ext (.flat (.secs Ln))),true⟩,⟨.us (.ext (.flat (.pens Q))),true⟩] ((symC (⟨Try.prog,[(33,ctrV C_size hardD),(42,ctrV C_kept hardD)],[],dkHo,Id'.one,60⟩:Sy Td) [] 47 (hdC (loopsC (bodyOf Try.f16)) 0) ⟨[(16,.c (.one (.v (.int .i64 (k:Int)))))]++anyB' (writesC (hdC (loopsC (bodyOf Try.f16)) 0)) ([(0,.c (.one (.ptr 0 0))),(1,.c (.one (.obj 1))),(2,.c (.one (.v (.int .i64 tn)))),(14,.c (.one (.obj 3))),(15,.c (.one (.v (.int .i64 (Q.length:Int)))))]++tabV f 47),[⟨.bx [.obj 2,.obj 3,.v (.int .i64 fu),.v (.bool fd),.v (.bool off)],true⟩,⟨.us (.ext (.nums ks)),false⟩,⟨.us (.ext (.flat (.secs Lk))),true⟩,⟨.us (.ext (.flat (.pens Q))),true⟩],0⟩).al [true])=some qs∧∀ q∈qs,q:=
 ⟨[decide ((↑k:Int)<(↑Q.length:Int))=true,(Value.int IntKind.i64 (0:Int)::List.replicate (128:Nat) (Value.int IntKind.u8 (0:Int))).length=(129:Nat),AggOk ((FL.pens Q).el (↑k:Int).toNat) 129,(0:Int)≤(↑k:Int)∧(↑k:Int).toNat<(FL.pens Q).n,((0:Int)≤(Q.getD (↑k:Int).toNat ((0:Int),[])).fst∧(Q.getD (↑k:Int).toNat ((0:Int),[])).fst.toNat<Lk.length)∧(kpI (↑Q.length:Int) (↑k:Int) tn ks).toNat≤(128:Nat)∧(kpI (↑Q.length:Int) (↑k:Int) tn ks).toNat≤Int.toNat (128:Int)∧(0:Nat)+(1:Nat)+(kpI (↑Q.length:Int) (↑k:Int) tn ks).toNat≤(cellsV ((FL.pens Q).el (↑k:Int).toNat)).length,List.take (kpI (↑Q.length:Int) (↑k:Int) tn ks).toNat (List.drop ((0:Nat)+(1:Nat)) (cellsV ((FL.pens Q).el (↑k:Int).toNat)))=(List.map bv (unb (List.take (kpI (↑Q.length:Int) (↑k:Int) tn ks).toNat (List.drop ((0:Nat)+(1:Nat)) (cellsV ((FL.pens Q).el (↑k:Int).toNat)))))),(0:Int)≤(128:Int)∧(128:Int)≤(128:Int),(0:Int)≤kpI (↑Q.length:Int) (↑k:Int) tn ks∧kpI (↑Q.length:Int) (↑k:Int) tn ks≤(128:Int),(0:Int)≤(↑k:Int),(0:Int)≤(Q.getD (↑k:Int).toNat ((0:Int),[])).fst∧(Q.getD (↑k:Int).toNat ((0:Int),[])).fst.toNat<(FL.secs Lk).n,(0:Nat)<(cellsV ((FL.pens Q).el (↑k:Int).toNat)).length,Value.int IntKind.i64 fu=Value.int IntKind.i64 fu,Value.bool fd=Value.bool fd,Value.bool off=Value.bool off,Th.ext (Dk.nums ks)=Th.ext (Dk.nums ks),Th.ext (Dk.flat (FL.secs (List.set Lk (Q.getD (↑k:Int).toNat ((0:Int),[])).fst.toNat (unb (List.take (kpI (↑Q.length:Int) (↑k:Int) tn ks).toNat (List.drop ((0:Nat)+(1:Nat)) (cellsV ((FL.pens Q).el (↑k:Int).toNat))))++List.drop (kpI (↑Q.length:Int) (↑k:Int) tn ks).toNat (Lk.getD (Q.getD (↑k:Int).toNat ((0:Int),[])).fst.toNat [])))))=Th.ext (Dk.flat (FL.secs Ln)),Th.ext (Dk.flat (FL.pens Q))=Th.ext (Dk.flat (FL.pens Q)),Value.int IntKind.i64 (IntKind.i64.wrap ((↑k:Int)+(1:Int)))=Value.int IntKind.i64 (↑(k+(1:Nat)):Int)],by kernel_rfl,(by refine mcons ?_ (mcons ?_ (mcons ?_ (mcons ?_ (mcons ?_ (mcons ?_ (mcons ?_ (mcons ?_ (mcons ?_ (mcons ?_ (mcons ?_ (mcons ?_ (mcons ?_ (mcons ?_ (mcons ?_ (mcons ?_ (mcons ?_ (mcons ?_ mnil)))))))))))))))))<;>first|rfl|exact h0|exact h1|exact h2|exact h3|exact h4|exact h5|exact h6|trivial|(exact ⟨by omega,by show (k:Int).toNat<Q.length;omega⟩)|(show AggOk (penV _ _) 129;exact aggOk_pen (WidQ.at h3 ⟨by omega,by omega⟩))|(exact ⟨by decide,by decide⟩)|(exact h4)|(exact ⟨h4,by omega,by show _≤128;omega,by show 0+1+_≤(cellsV (penV _ _)).length;rw [(aggOk_pen (WidQ.at h3 ⟨by omega,by omega⟩)).2.1];omega⟩)|(exact crCut2 _ _ _)|(exact (by omega))|(show 0<(cellsV (penV _ _)).length;rw [(aggOk_pen (WidQ.at h3 ⟨by omega,by omega⟩)).2.1];decide)|(exact congrArg (fun x=>Th.ext (Dk.flat (FL.secs x))) h6)|(exact congrArg (fun x=>Th.ext (Dk.flat (FL.secs x))) h1)|(exact congrArg _ h1))⟩
set_option maxRecDepth 100000 in
theorem crash_x (L:List (List UInt8)) (Q:List (Int×List UInt8)) (fu:Int) (fd off:Bool) (ks:List Int) (tn:Int) (Lk Ln:List (List UInt8)) (k:Nat) (f:Nat→Value) (h0:decide ((k:Int)<(Q.length:Int))=false) (h1:Lk=Ln):∃ qs,alX Id' 4 0 [] [⟨.bx [.obj 2,.obj 3,.v (.int .i64 fu),.v (.bool fd),.v (.bool off)],true⟩,⟨.us (.ext (.nums ks)),false⟩,⟨.us (.ext (.flat (.secs Ln))),true⟩,⟨.us (.ext (.flat (.pens Q))),true⟩] ((symC (⟨Try.prog,[(33,ctrV C_size hardD),(42,ctrV C_kept hardD)],[],dkHo,Id'.one,60⟩:Sy Td) [] 47 (hdC (loopsC (bodyOf Try.f16)) 0) ⟨[(16,.c (.one (.v (.int .i64 (k:Int)))))]++anyB' (writesC (hdC (loopsC (bodyOf Try.f16)) 0)) ([(0,.c (.one (.ptr 0 0))),(1,.c (.one (.obj 1))),(2,.c (.one (.v (.int .i64 tn)))),(14,.c (.one (.obj 3))),(15,.c (.one (.v (.int .i64 (Q.length:Int)))))]++tabV f 47),[⟨.bx [.obj 2,.obj 3,.v (.int .i64 fu),.v (.bool fd),.v (.bool off)],true⟩,⟨.us (.ext (.nums ks)),false⟩,⟨.us (.ext (.flat (.secs Lk))),true⟩,⟨.us (.ext (.flat (.pens Q))),true⟩],0⟩).al [false])=some qs∧∀ q∈qs,q:=
 ⟨[decide ((↑k:Int)<(↑Q.length:Int))=false,Value.int IntKind.i64 fu=Value.int IntKind.i64 fu,Value.bool fd=Value.bool fd,Value.bool off=Value.bool off,Th.ext (Dk.nums ks)=Th.ext (Dk.nums ks),Th.ext (Dk.flat (FL.secs Lk))=Th.ext (Dk.flat (FL.secs Ln)),Th.ext (Dk.flat (FL.pens Q))=Th.ext (Dk.flat (FL.pens Q))],by kernel_rfl,(by refine mcons ?_ (mcons ?_ (mcons ?_ (mcons ?_ (mcons ?_ (mcons ?_ (mcons ?_ mnil))))))<;>first|rfl|exact h0|exact h1|trivial|(exact ⟨by omega,by show (k:Int).toNat<Q.length;omega⟩)|(show AggOk (penV _ _) 129;exact aggOk_pen (WidQ.at h3 ⟨by omega,by omega⟩))|(exact ⟨by decide,by decide⟩)|(exact h4)|(exact ⟨h4,by omega,by show _≤128;omega,by show 0+1+_≤(cellsV (penV _ _)).length;rw [(aggOk_pen (WidQ.at h3 ⟨by omega,by omega⟩)).2.1];omega⟩)|(exact crCut2 _ _ _)|(exact (by omega))|(show 0<(cellsV (penV _ _)).length;rw [(aggOk_pen (WidQ.at h3 ⟨by omega,by omega⟩)).2.1];decide)|(exact congrArg (fun x=>Th.ext (Dk.flat (FL.secs x))) h6)|(exact congrArg (fun x=>Th.ext (Dk.flat (FL.secs x))) h1)|(exact congrArg _ h1))⟩
set_option maxRecDepth 100000 in
theorem crash_lp (L:List (List UInt8)) (Q:List (Int×List UInt8)) (fu:Int) (fd off:Bool) (ks:List Int) (tn:Int) (hQ:WidQ Q) (hA:AtQ L.length Q) {W0:World} {G:Nat→Prop} (S0:Sy Td) (hS0:S0.P=Try.prog):LoopSound S0 Id' W0 G 47 (hdC (loopsC (bodyOf Try.f16)) 0) (lpG Id' 47 (hdC (loopsC (bodyOf Try.f16)) 0) 4 [(16,.c (.one (.v (.int .i64 ((0:Nat):Int)))))] [(0,.c (.one (.ptr 0 0))),(1,.c (.one (.obj 1))),(2,.c (.one (.v (.int .i64 tn)))),(14,.c (.one (.obj 3))),(15,.c (.one (.v (.int .i64 (Q.length:Int)))))] [⟨.bx [.obj 2,.obj 3,.v (.int .i64 fu),.v (.bool fd),.v (.bool off)],true⟩,⟨.us (.ext (.nums ks)),false⟩,⟨.us (.ext (.flat (.secs (crQ L Q ks tn 0)))),true⟩,⟨.us (.ext (.flat (.pens Q))),true⟩] (.leaf (.exit 0) [] [⟨.bx [.obj 2,.obj 3,.v (.int .i64 fu),.v (.bool fd),.v (.bool off)],true⟩,⟨.us (.ext (.nums ks)),false⟩,⟨.us (.ext (.flat (.secs (crD L Q ks tn)))),true⟩,⟨.us (.ext (.flat (.pens Q))),true⟩])):=by
 refine lp_sound (V:=fun k=>[(16,.c (.one (.v (.int .i64 (k:Int)))))]) (M:=(fun k=>[⟨.bx [.obj 2,.obj 3,.v (.int .i64 fu),.v (.bool fd),.v (.bool off)],true⟩,⟨.us (.ext (.nums ks)),false⟩,⟨.us (.ext (.flat (.secs (crQ L Q ks tn k)))),true⟩,⟨.us (.ext (.flat (.pens Q))),true⟩]:Nat→Mem Td)) (N:=100000) (Ux:=fun k x=>match x with|.exit 0=>some ([],([⟨.bx [.obj 2,.obj 3,.v (.int .i64 fu),.v (.bool fd),.v (.bool off)],true⟩,⟨.us (.ext (.nums ks)),false⟩,⟨.us (.ext (.flat (.secs (crD L Q ks tn)))),true⟩,⟨.us (.ext (.flat (.pens Q))),true⟩]:Mem Td))|_=>none) (X:=fun _ _=>True) (J:=fun k=>k≤Q.length) (fun k=>by kernel_rfl) (Nat.zero_le _) (fun k hk hJ f=>?_) (fun K hK k x U hk hU hX=>?_)
 ·rw [hS0]
  cases hT:decide ((k:Int)<(Q.length:Int)) with
  |false=>
   have hk1:¬ k<Q.length:=by rw [ltNI hT];simp
   exact rnd_xD (⟨Try.prog,[(33,ctrV C_size hardD),(42,ctrV C_kept hardD)],[],dkHo,Id'.one,60⟩:Sy Td) rfl ((fun (W0:World) (G:Nat→Prop)=>SyOk.mk2 Try.mixed dkHo_ok (FnsR.cons (R_size) (FnsR.cons (R_kept) (FnsR.nil))) EqsOk.nil) W0 G) (crash_x L Q fu fd off ks tn _ _ k f hT (by show crQ L Q ks tn k=crQ L Q ks tn Q.length;rw [show k=Q.length by omega])) rfl trivial
  |true=>
   have hk1:k<Q.length:=by rw [ltNI hT]
   have:=hQ.2
   have hW:IntKind.i64.wrap ((k:Int)+1)=((k+1:Nat):Int):=by rw [IntWalk.i64_in _ (by omega)];omega
   exact rnd_nD (⟨Try.prog,[(33,ctrV C_size hardD),(42,ctrV C_kept hardD)],[],dkHo,Id'.one,60⟩:Sy Td) rfl ((fun (W0:World) (G:Nat→Prop)=>SyOk.mk2 Try.mixed dkHo_ok (FnsR.cons (R_size) (FnsR.cons (R_kept) (FnsR.nil))) EqsOk.nil) W0 G) (crash_n L Q fu fd off ks tn _ _ k f hT hW hk1 hQ (by rw [crQ_len];exact AtQ.at hA ⟨by omega,by omega⟩) (kpI_in _ _ _ _) crQ_succ) rfl rfl (by omega) (by omega)
 ·revert hU
  match x with
  |.exit 0=>intro hU;simp only [Option.some.injEq] at hU;subst hU;exact hK
  |.normal=>intro hU;cases hU
  |.ret=>intro hU;cases hU
  |.exit (n+1)=>intro hU;cases hU
set_option maxRecDepth 100000 in
theorem crash_w0 (L:List (List UInt8)) (Q:List (Int×List UInt8)) (fu:Int) (fd off:Bool) (ks:List Int) (tn:Int) (h0:((L.length:Int)==0)=false):∃ qs,wayO Id' ([⟨.bx [.obj 2,.obj 3,.v (.int .i64 fu),.v (.bool fd),.v (.bool off)],true⟩,⟨.us (.ext (.nums ks)),false⟩,⟨.us (.ext (.flat (.secs L))),true⟩,⟨.us (.ext (.flat (.pens Q))),true⟩]:Mem Td).length [⟨.bx [.obj 2,.obj 4,.v (.int .i64 fu),.v (.bool false),.v (.bool false)],true⟩,⟨.us (.ext (.nums ks)),false⟩,⟨.us (.ext (.flat (.secs (crD L Q ks tn)))),true⟩,⟨.dead,true⟩,⟨.us (.ext (.flat (.pens []))),true⟩] (.tup []) ((runFn (⟨Try.prog,[(33,ctrV C_size hardD),(42,ctrV C_kept hardD)],[],dkHo,Id'.one,60⟩:Sy Td) [(2,(lpG Id' 47 (hdC (loopsC (bodyOf Try.f16)) 0) 4 [(16,.c (.one (.v (.int .i64 ((0:Nat):Int)))))] [(0,.c (.one (.ptr 0 0))),(1,.c (.one (.obj 1))),(2,.c (.one (.v (.int .i64 tn)))),(14,.c (.one (.obj 3))),(15,.c (.one (.v (.int .i64 (Q.length:Int)))))] [⟨.bx [.obj 2,.obj 3,.v (.int .i64 fu),.v (.bool fd),.v (.bool off)],true⟩,⟨.us (.ext (.nums ks)),false⟩,⟨.us (.ext (.flat (.secs (crQ L Q ks tn 0)))),true⟩,⟨.us (.ext (.flat (.pens Q))),true⟩] (.leaf (.exit 0) [] [⟨.bx [.obj 2,.obj 3,.v (.int .i64 fu),.v (.bool fd),.v (.bool off)],true⟩,⟨.us (.ext (.nums ks)),false⟩,⟨.us (.ext (.flat (.secs (crD L Q ks tn)))),true⟩,⟨.us (.ext (.flat (.pens Q))),true⟩])))] Try.f16 [.one (.ptr 0 0),.one (.obj 1),.one (.v (.int .i64 tn))] [⟨.bx [.obj 2,.obj 3,.v (.int .i64 fu),.v (.bool fd),.v (.bool off)],true⟩,⟨.us (.ext (.nums ks)),false⟩,⟨.us (.ext (.flat (.secs L))),true⟩,⟨.us (.ext (.flat (.pens Q))),true⟩]).al [false])=some qs∧∀ q∈qs,q:=
 ⟨[((↑L.length:Int)==(0:Int))=false,Value.int IntKind.i64 tn=Value.int IntKind.i64 tn,Value.int IntKind.i64 (↑(FL.pens Q).n:Int)=Value.int IntKind.i64 (↑Q.length:Int),Value.int IntKind.i64 fu=Value.int IntKind.i64 fu,Value.bool fd=Value.bool fd,Value.bool off=Value.bool off,Th.ext (Dk.nums ks)=Th.ext (Dk.nums ks),Th.ext (Dk.flat (FL.secs L))=Th.ext (Dk.flat (FL.secs L)),Th.ext (Dk.flat (FL.pens Q))=Th.ext (Dk.flat (FL.pens Q)),Value.int IntKind.i64 (Int.ofNat 0)=Value.int IntKind.i64 (Int.ofNat (0:Nat)),Value.int IntKind.i64 fu=Value.int IntKind.i64 fu,Value.bool false=Value.bool false,Value.bool false=Value.bool false,Th.ext (Dk.nums ks)=Th.ext (Dk.nums ks),Th.ext (Dk.flat (FL.secs (Nat.brecOn.go Q.length (crQ._f L Q ks tn)).1))=Th.ext (Dk.flat (FL.secs (Nat.brecOn.go Q.length (crQ._f L Q ks tn)).1)),∀ (w:World),Id'.holds (Th.ext (Dk.flat (FL.pens []))) w nilV∧∀ (j:Nat),¬Id'.foot (Th.ext (Dk.flat (FL.pens []))) w nilV j],by kernel_rfl,(by refine mcons ?_ (mcons ?_ (mcons ?_ (mcons ?_ (mcons ?_ (mcons ?_ (mcons ?_ (mcons ?_ (mcons ?_ (mcons ?_ (mcons ?_ (mcons ?_ (mcons ?_ (mcons ?_ (mcons ?_ (mcons ?_ mnil)))))))))))))))<;>first|rfl|exact h0|trivial|(exact nil_pens rfl))⟩
def C_crash:Ctr Td:=fun us sub=>match us,sub with
 |[.one (.ptr 0 0),.one (.obj 1),.one (.v (.int .i64 tn))],[⟨.bx [.obj 2,.obj 3,.v (.int .i64 fu),.v (.bool fd),.v (.bool off)],true⟩,⟨.us (.ext (.nums ks)),false⟩,⟨.us (.ext (.flat (.secs L))),true⟩,⟨.us (.ext (.flat (.pens Q))),true⟩]=>some ([WidQ Q,AtQ L.length Q,0<L.length],.tup [],[⟨.bx [.obj 2,.obj 4,.v (.int .i64 fu),.v (.bool false),.v (.bool false)],true⟩,⟨.us (.ext (.nums ks)),false⟩,⟨.us (.ext (.flat (.secs (crD L Q ks tn)))),true⟩,⟨.dead,true⟩,⟨.us (.ext (.flat (.pens []))),true⟩])
 |_,_=>none
set_option maxRecDepth 100000 in
theorem C_crash_ok:CtrOk Try.prog Id' 16 C_crash:=by
 intro us sub ps x sm h hp w e vs hM ha
 unfold C_crash at h
 split at h
 ·rename_i tn fu fd off ks L Q
  simp only [Option.some.injEq,Prod.mk.injEq] at h
  obtain ⟨rfl,rfl,rfl⟩:=h
  have hQ:WidQ Q:=hp _ (by simp)
  have hA:AtQ L.length Q:=hp _ (by simp)
  have hn:0<L.length:=hp _ (by simp)
  have h0:((L.length:Int)==0)=false:=beq_eq_false_iff_ne.2 (by omega)
  exact ctr_way (I:=Id') (fun (W0:World) (G:Nat→Prop)=>SyOk.mk2 Try.mixed dkHo_ok (FnsR.cons (R_size) (FnsR.cons (R_kept) (FnsR.nil))) EqsOk.nil) rfl Try.func16 (by kernel_rfl) (fun _ _=>LpsOk.cons (by kernel_rfl) (crash_lp L Q fu fd off ks tn hQ hA _ rfl) (LpsOk.nil _)) (cs:=[false]) (by kernel_rfl) (crash_w0 L Q fu fd off ks tn h0) w e vs hM ha
 ·cases h
end Go.Proofs.Ytonomiljclemnaa
set_option linter.unusedVariables false
set_option linter.unusedSimpArgs false
namespace Go.Proofs.Ytonomiljclemnaa
open Go.RowKit
def rOff (ro:Bool) (ru:Int):Bool:=ro||ru==0
def rFu (ru:Int):Int:=bif decide (ru>0) then IntKind.i64.wrap (ru - 1) else ru
def armE (n:Int) (ro:Bool):Int:=bif decide (n<0) then 2 else bif ro then 7 else 0
def armFu (n:Int) (ro:Bool) (ru:Int):Int:=bif decide (n<0) then ru else bif ro then ru else n
set_option maxRecDepth 100000 in
theorem rstep_w0 (L:List (List UInt8)) (Q:List (Int×List UInt8)) (ru:Int) (ro:Bool) (h0:(ru==0)=true) (h1:decide (ru>0)=true):∃ qs,wayO Id' ([⟨.bx [.obj 1,.obj 2,.v (.int .i64 ru),.v (.bool ro)],true⟩,⟨.us (.ext (.tab (.bs L))),true⟩,⟨.us (.ext (.tab (.wq 89 Q))),true⟩]:Mem Td).length [⟨.bx [.obj 1,.obj 2,.v (.int .i64 (rFu ru)),.v (.bool (rOff ro ru))],true⟩,⟨.us (.ext (.tab (.bs L))),true⟩,⟨.us (.ext (.tab (.wq 89 Q))),true⟩] (svV (.bool (!rOff ro ru))) ((runFn (⟨Try.prog,[],[],dkHo,Id'.one,60⟩:Sy Td) [] Try.f43 [.one (.ptr 0 0)] [⟨.bx [.obj 1,.obj 2,.v (.int .i64 ru),.v (.bool ro)],true⟩,⟨.us (.ext (.tab (.bs L))),true⟩,⟨.us (.ext (.tab (.wq 89 Q))),true⟩]).al [true,true])=some qs∧∀ q∈qs,q:=
 ⟨[(ru==(0:Int))=true,decide (ru>(0:Int))=true,Value.int IntKind.i64 (IntKind.i64.wrap (ru - (1:Int)))=Value.int IntKind.i64 (rFu ru),Value.bool true=Value.bool (rOff ro ru),Th.ext (Dk.tab (TB.bs L))=Th.ext (Dk.tab (TB.bs L)),Th.ext (Dk.tab (TB.wq 89 Q))=Th.ext (Dk.tab (TB.wq 89 Q)),Value.bool false=Value.bool !rOff ro ru],by kernel_rfl,(by refine mcons ?_ (mcons ?_ (mcons ?_ (mcons ?_ (mcons ?_ (mcons ?_ (mcons ?_ mnil))))))<;>first|rfl|exact h0|exact h1|trivial|(simp only [rOff,rFu,h0,h1,cond_true,cond_false];done)|(simp only [rOff,rFu,h0,h1,cond_true,cond_false];rfl)|(simp [rOff,rFu,h0,h1];done)|(simp only [rOff,rFu,h0,cond_true,cond_false];done)|(simp only [rOff,rFu,h0,cond_true,cond_false];rfl)|(simp [rOff,rFu,h0];done)|(simp [rOff,h0];done)|(simp [rFu,h1];done))⟩
set_option maxRecDepth 100000 in
theorem rstep_w1 (L:List (List UInt8)) (Q:List (Int×List UInt8)) (ru:Int) (ro:Bool) (h0:(ru==0)=true) (h1:decide (ru>0)=false):∃ qs,wayO Id' ([⟨.bx [.obj 1,.obj 2,.v (.int .i64 ru),.v (.bool ro)],true⟩,⟨.us (.ext (.tab (.bs L))),true⟩,⟨.us (.ext (.tab (.wq 89 Q))),true⟩]:Mem Td).length [⟨.bx [.obj 1,.obj 2,.v (.int .i64 (rFu ru)),.v (.bool (rOff ro ru))],true⟩,⟨.us (.ext (.tab (.bs L))),true⟩,⟨.us (.ext (.tab (.wq 89 Q))),true⟩] (svV (.bool (!rOff ro ru))) ((runFn (⟨Try.prog,[],[],dkHo,Id'.one,60⟩:Sy Td) [] Try.f43 [.one (.ptr 0 0)] [⟨.bx [.obj 1,.obj 2,.v (.int .i64 ru),.v (.bool ro)],true⟩,⟨.us (.ext (.tab (.bs L))),true⟩,⟨.us (.ext (.tab (.wq 89 Q))),true⟩]).al [true,false])=some qs∧∀ q∈qs,q:=
 ⟨[(ru==(0:Int))=true,decide (ru>(0:Int))=false,Value.int IntKind.i64 ru=Value.int IntKind.i64 (rFu ru),Value.bool true=Value.bool (rOff ro ru),Th.ext (Dk.tab (TB.bs L))=Th.ext (Dk.tab (TB.bs L)),Th.ext (Dk.tab (TB.wq 89 Q))=Th.ext (Dk.tab (TB.wq 89 Q)),Value.bool false=Value.bool !rOff ro ru],by kernel_rfl,(by refine mcons ?_ (mcons ?_ (mcons ?_ (mcons ?_ (mcons ?_ (mcons ?_ (mcons ?_ mnil))))))<;>first|rfl|exact h0|exact h1|trivial|(simp only [rOff,rFu,h0,h1,cond_true,cond_false];done)|(simp only [rOff,rFu,h0,h1,cond_true,cond_false];rfl)|(simp [rOff,rFu,h0,h1];done)|(simp only [rOff,rFu,h0,cond_true,cond_false];done)|(simp only [rOff,rFu,h0,cond_true,cond_false];rfl)|(simp [rOff,rFu,h0];done)|(simp [rOff,h0];done)|(simp [rFu,h1];done))⟩
set_option maxRecDepth 100000 in
theorem rstep_w2 (L:List (List UInt8)) (Q:List (Int×List UInt8)) (ru:Int) (ro:Bool) (h0:(ru==0)=false) (h1:decide (ru>0)=true):∃ qs,wayO Id' ([⟨.bx [.obj 1,.obj 2,.v (.int .i64 ru),.v (.bool ro)],true⟩,⟨.us (.ext (.tab (.bs L))),true⟩,⟨.us (.ext (.tab (.wq 89 Q))),true⟩]:Mem Td).length [⟨.bx [.obj 1,.obj 2,.v (.int .i64 (rFu ru)),.v (.bool (rOff ro ru))],true⟩,⟨.us (.ext (.tab (.bs L))),true⟩,⟨.us (.ext (.tab (.wq 89 Q))),true⟩] (svV (.bool (!rOff ro ru))) ((runFn (⟨Try.prog,[],[],dkHo,Id'.one,60⟩:Sy Td) [] Try.f43 [.one (.ptr 0 0)] [⟨.bx [.obj 1,.obj 2,.v (.int .i64 ru),.v (.bool ro)],true⟩,⟨.us (.ext (.tab (.bs L))),true⟩,⟨.us (.ext (.tab (.wq 89 Q))),true⟩]).al [false,true])=some qs∧∀ q∈qs,q:=
 ⟨[(ru==(0:Int))=false,decide (ru>(0:Int))=true,Value.int IntKind.i64 (IntKind.i64.wrap (ru - (1:Int)))=Value.int IntKind.i64 (rFu ru),Value.bool ro=Value.bool (rOff ro ru),Th.ext (Dk.tab (TB.bs L))=Th.ext (Dk.tab (TB.bs L)),Th.ext (Dk.tab (TB.wq 89 Q))=Th.ext (Dk.tab (TB.wq 89 Q)),(Value.bool !ro)=Value.bool !rOff ro ru],by kernel_rfl,(by refine mcons ?_ (mcons ?_ (mcons ?_ (mcons ?_ (mcons ?_ (mcons ?_ (mcons ?_ mnil))))))<;>first|rfl|exact h0|exact h1|trivial|(simp only [rOff,rFu,h0,h1,cond_true,cond_false];done)|(simp only [rOff,rFu,h0,h1,cond_true,cond_false];rfl)|(simp [rOff,rFu,h0,h1];done)|(simp only [rOff,rFu,h0,cond_true,cond_false];done)|(simp only [rOff,rFu,h0,cond_true,cond_false];rfl)|(simp [rOff,rFu,h0];done)|(simp [rOff,h0];done)|(simp [rFu,h1];done))⟩
set_option maxRecDepth 100000 in
theorem rstep_w3 (L:List (List UInt8)) (Q:List (Int×List UInt8)) (ru:Int) (ro:Bool) (h0:(ru==0)=false) (h1:decide (ru>0)=false):∃ qs,wayO Id' ([⟨.bx [.obj 1,.obj 2,.v (.int .i64 ru),.v (.bool ro)],true⟩,⟨.us (.ext (.tab (.bs L))),true⟩,⟨.us (.ext (.tab (.wq 89 Q))),true⟩]:Mem Td).length [⟨.bx [.obj 1,.obj 2,.v (.int .i64 (rFu ru)),.v (.bool (rOff ro ru))],true⟩,⟨.us (.ext (.tab (.bs L))),true⟩,⟨.us (.ext (.tab (.wq 89 Q))),true⟩] (svV (.bool (!rOff ro ru))) ((runFn (⟨Try.prog,[],[],dkHo,Id'.one,60⟩:Sy Td) [] Try.f43 [.one (.ptr 0 0)] [⟨.bx [.obj 1,.obj 2,.v (.int .i64 ru),.v (.bool ro)],true⟩,⟨.us (.ext (.tab (.bs L))),true⟩,⟨.us (.ext (.tab (.wq 89 Q))),true⟩]).al [false,false])=some qs∧∀ q∈qs,q:=
 ⟨[(ru==(0:Int))=false,decide (ru>(0:Int))=false,Value.int IntKind.i64 ru=Value.int IntKind.i64 (rFu ru),Value.bool ro=Value.bool (rOff ro ru),Th.ext (Dk.tab (TB.bs L))=Th.ext (Dk.tab (TB.bs L)),Th.ext (Dk.tab (TB.wq 89 Q))=Th.ext (Dk.tab (TB.wq 89 Q)),(Value.bool !ro)=Value.bool !rOff ro ru],by kernel_rfl,(by refine mcons ?_ (mcons ?_ (mcons ?_ (mcons ?_ (mcons ?_ (mcons ?_ (mcons ?_ mnil))))))<;>first|rfl|exact h0|exact h1|trivial|(simp only [rOff,rFu,h0,h1,cond_true,cond_false];done)|(simp only [rOff,rFu,h0,h1,cond_true,cond_false];rfl)|(simp [rOff,rFu,h0,h1];done)|(simp only [rOff,rFu,h0,cond_true,cond_false];done)|(simp only [rOff,rFu,h0,cond_true,cond_false];rfl)|(simp [rOff,rFu,h0];done)|(simp [rOff,h0];done)|(simp [rFu,h1];done))⟩
def C_rstep:Ctr Td:=fun us sub=>match us,sub with
 |[.one (.ptr 0 0)],[⟨.bx [.obj 1,.obj 2,.v (.int .i64 ru),.v (.bool ro)],true⟩,⟨.us (.ext (.tab (.bs L))),true⟩,⟨.us (.ext (.tab (.wq 89 Q))),true⟩]=>some ([],svV (.bool (!rOff ro ru)),[⟨.bx [.obj 1,.obj 2,.v (.int .i64 (rFu ru)),.v (.bool (rOff ro ru))],true⟩,⟨.us (.ext (.tab (.bs L))),true⟩,⟨.us (.ext (.tab (.wq 89 Q))),true⟩])
 |_,_=>none
set_option maxRecDepth 100000 in
theorem C_rstep_ok:CtrOk Try.prog Id' 43 C_rstep:=by
 intro us sub ps x sm h hp w e vs hM ha
 unfold C_rstep at h
 split at h
 ·rename_i ru ro L Q
  simp only [Option.some.injEq,Prod.mk.injEq] at h
  obtain ⟨rfl,rfl,rfl⟩:=h
  rcases Bool.eq_false_or_eq_true (ru==0) with h0|h0
  ·rcases Bool.eq_false_or_eq_true (decide (ru>0)) with h1|h1
   ·exact ctr_way (I:=Id') (fun (W0:World) (G:Nat→Prop)=>SyOk.mk2 Try.mixed dkHo_ok (FnsR.nil) EqsOk.nil) rfl Try.func43 (by kernel_rfl) (fun _ _=>LpsOk.nil _) (cs:=[true,true]) (by kernel_rfl) (rstep_w0 L Q ru ro h0 h1) w e vs hM ha
   ·exact ctr_way (I:=Id') (fun (W0:World) (G:Nat→Prop)=>SyOk.mk2 Try.mixed dkHo_ok (FnsR.nil) EqsOk.nil) rfl Try.func43 (by kernel_rfl) (fun _ _=>LpsOk.nil _) (cs:=[true,false]) (by kernel_rfl) (rstep_w1 L Q ru ro h0 h1) w e vs hM ha
  ·rcases Bool.eq_false_or_eq_true (decide (ru>0)) with h1|h1
   ·exact ctr_way (I:=Id') (fun (W0:World) (G:Nat→Prop)=>SyOk.mk2 Try.mixed dkHo_ok (FnsR.nil) EqsOk.nil) rfl Try.func43 (by kernel_rfl) (fun _ _=>LpsOk.nil _) (cs:=[false,true]) (by kernel_rfl) (rstep_w2 L Q ru ro h0 h1) w e vs hM ha
   ·exact ctr_way (I:=Id') (fun (W0:World) (G:Nat→Prop)=>SyOk.mk2 Try.mixed dkHo_ok (FnsR.nil) EqsOk.nil) rfl Try.func43 (by kernel_rfl) (fun _ _=>LpsOk.nil _) (cs:=[false,false]) (by kernel_rfl) (rstep_w3 L Q ru ro h0 h1) w e vs hM ha
 ·cases h
theorem R_rstep:RowOk Try.prog Id' hardD 43 (ctrF Id' C_rstep hardD):=ctrF_ok Try.call43 C_rstep_ok
set_option maxRecDepth 100000 in
theorem rarm_w0 (L:List (List UInt8)) (Q:List (Int×List UInt8)) (ru:Int) (ro:Bool) (n:Int) (h0:decide (n<0)=true):∃ qs,wayO Id' ([⟨.bx [.obj 1,.obj 2,.v (.int .i64 ru),.v (.bool ro)],true⟩,⟨.us (.ext (.tab (.bs L))),true⟩,⟨.us (.ext (.tab (.wq 89 Q))),true⟩]:Mem Td).length [⟨.bx [.obj 1,.obj 2,.v (.int .i64 (armFu n ro ru)),.v (.bool ro)],true⟩,⟨.us (.ext (.tab (.bs L))),true⟩,⟨.us (.ext (.tab (.wq 89 Q))),true⟩] (svV (.int .i64 (armE n ro))) ((runFn (⟨Try.prog,[],[],dkHo,Id'.one,60⟩:Sy Td) [] Try.f31 [.one (.ptr 0 0),.one (.v (.int .i64 n))] [⟨.bx [.obj 1,.obj 2,.v (.int .i64 ru),.v (.bool ro)],true⟩,⟨.us (.ext (.tab (.bs L))),true⟩,⟨.us (.ext (.tab (.wq 89 Q))),true⟩]).al [true])=some qs∧∀ q∈qs,q:=
 ⟨[decide (n<(0:Int))=true,Value.int IntKind.i64 ru=Value.int IntKind.i64 (armFu n ro ru),Value.bool ro=Value.bool ro,Th.ext (Dk.tab (TB.bs L))=Th.ext (Dk.tab (TB.bs L)),Th.ext (Dk.tab (TB.wq 89 Q))=Th.ext (Dk.tab (TB.wq 89 Q)),Value.int IntKind.i64 (Int.ofNat 2)=Value.int IntKind.i64 (armE n ro)],by kernel_rfl,(by refine mcons ?_ (mcons ?_ (mcons ?_ (mcons ?_ (mcons ?_ (mcons ?_ mnil)))))<;>first|rfl|exact h0|trivial|(simp only [armE,armFu,h0,h1,cond_true,cond_false];done)|(simp only [armE,armFu,h0,h1,cond_true,cond_false];rfl)|(simp [armE,armFu,h0,h1];done)|(simp only [armE,armFu,h0,cond_true,cond_false];done)|(simp only [armE,armFu,h0,cond_true,cond_false];rfl)|(simp [armE,armFu,h0];done))⟩
set_option maxRecDepth 100000 in
theorem rarm_w1 (L:List (List UInt8)) (Q:List (Int×List UInt8)) (ru:Int) (ro:Bool) (n:Int) (h0:decide (n<0)=false) (h1:ro=true):∃ qs,wayO Id' ([⟨.bx [.obj 1,.obj 2,.v (.int .i64 ru),.v (.bool ro)],true⟩,⟨.us (.ext (.tab (.bs L))),true⟩,⟨.us (.ext (.tab (.wq 89 Q))),true⟩]:Mem Td).length [⟨.bx [.obj 1,.obj 2,.v (.int .i64 (armFu n ro ru)),.v (.bool ro)],true⟩,⟨.us (.ext (.tab (.bs L))),true⟩,⟨.us (.ext (.tab (.wq 89 Q))),true⟩] (svV (.int .i64 (armE n ro))) ((runFn (⟨Try.prog,[],[],dkHo,Id'.one,60⟩:Sy Td) [] Try.f31 [.one (.ptr 0 0),.one (.v (.int .i64 n))] [⟨.bx [.obj 1,.obj 2,.v (.int .i64 ru),.v (.bool ro)],true⟩,⟨.us (.ext (.tab (.bs L))),true⟩,⟨.us (.ext (.tab (.wq 89 Q))),true⟩]).al [false,true])=some qs∧∀ q∈qs,q:=
 ⟨[decide (n<(0:Int))=false,ro=true,Value.int IntKind.i64 ru=Value.int IntKind.i64 (armFu n ro ru),Value.bool ro=Value.bool ro,Th.ext (Dk.tab (TB.bs L))=Th.ext (Dk.tab (TB.bs L)),Th.ext (Dk.tab (TB.wq 89 Q))=Th.ext (Dk.tab (TB.wq 89 Q)),Value.int IntKind.i64 (Int.ofNat 7)=Value.int IntKind.i64 (armE n ro)],by kernel_rfl,(by refine mcons ?_ (mcons ?_ (mcons ?_ (mcons ?_ (mcons ?_ (mcons ?_ (mcons ?_ mnil))))))<;>first|rfl|exact h0|exact h1|trivial|(simp only [armE,armFu,h0,h1,cond_true,cond_false];done)|(simp only [armE,armFu,h0,h1,cond_true,cond_false];rfl)|(simp [armE,armFu,h0,h1];done)|(simp only [armE,armFu,h0,cond_true,cond_false];done)|(simp only [armE,armFu,h0,cond_true,cond_false];rfl)|(simp [armE,armFu,h0];done))⟩
set_option maxRecDepth 100000 in
theorem rarm_w2 (L:List (List UInt8)) (Q:List (Int×List UInt8)) (ru:Int) (ro:Bool) (n:Int) (h0:decide (n<0)=false) (h1:ro=false):∃ qs,wayO Id' ([⟨.bx [.obj 1,.obj 2,.v (.int .i64 ru),.v (.bool ro)],true⟩,⟨.us (.ext (.tab (.bs L))),true⟩,⟨.us (.ext (.tab (.wq 89 Q))),true⟩]:Mem Td).length [⟨.bx [.obj 1,.obj 2,.v (.int .i64 (armFu n ro ru)),.v (.bool ro)],true⟩,⟨.us (.ext (.tab (.bs L))),true⟩,⟨.us (.ext (.tab (.wq 89 Q))),true⟩] (svV (.int .i64 (armE n ro))) ((runFn (⟨Try.prog,[],[],dkHo,Id'.one,60⟩:Sy Td) [] Try.f31 [.one (.ptr 0 0),.one (.v (.int .i64 n))] [⟨.bx [.obj 1,.obj 2,.v (.int .i64 ru),.v (.bool ro)],true⟩,⟨.us (.ext (.tab (.bs L))),true⟩,⟨.us (.ext (.tab (.wq 89 Q))),true⟩]).al [false,false])=some qs∧∀ q∈qs,q:=
 ⟨[decide (n<(0:Int))=false,ro=false,Value.int IntKind.i64 n=Value.int IntKind.i64 (armFu n ro ru),Value.bool ro=Value.bool ro,Th.ext (Dk.tab (TB.bs L))=Th.ext (Dk.tab (TB.bs L)),Th.ext (Dk.tab (TB.wq 89 Q))=Th.ext (Dk.tab (TB.wq 89 Q)),Value.int IntKind.i64 (Int.ofNat 0)=Value.int IntKind.i64 (armE n ro)],by kernel_rfl,(by refine mcons ?_ (mcons ?_ (mcons ?_ (mcons ?_ (mcons ?_ (mcons ?_ (mcons ?_ mnil))))))<;>first|rfl|exact h0|exact h1|trivial|(simp only [armE,armFu,h0,h1,cond_true,cond_false];done)|(simp only [armE,armFu,h0,h1,cond_true,cond_false];rfl)|(simp [armE,armFu,h0,h1];done)|(simp only [armE,armFu,h0,cond_true,cond_false];done)|(simp only [armE,armFu,h0,cond_true,cond_false];rfl)|(simp [armE,armFu,h0];done))⟩
def C_rarm:Ctr Td:=fun us sub=>match us,sub with
 |[.one (.ptr 0 0),.one (.v (.int .i64 n))],[⟨.bx [.obj 1,.obj 2,.v (.int .i64 ru),.v (.bool ro)],true⟩,⟨.us (.ext (.tab (.bs L))),true⟩,⟨.us (.ext (.tab (.wq 89 Q))),true⟩]=>some ([],svV (.int .i64 (armE n ro)),[⟨.bx [.obj 1,.obj 2,.v (.int .i64 (armFu n ro ru)),.v (.bool ro)],true⟩,⟨.us (.ext (.tab (.bs L))),true⟩,⟨.us (.ext (.tab (.wq 89 Q))),true⟩])
 |_,_=>none
set_option maxRecDepth 100000 in
theorem C_rarm_ok:CtrOk Try.prog Id' 31 C_rarm:=by
 intro us sub ps x sm h hp w e vs hM ha
 unfold C_rarm at h
 split at h
 ·rename_i n ru ro L Q
  simp only [Option.some.injEq,Prod.mk.injEq] at h
  obtain ⟨rfl,rfl,rfl⟩:=h
  rcases Bool.eq_false_or_eq_true (decide (n<0)) with h0|h0
  ·exact ctr_way (I:=Id') (fun (W0:World) (G:Nat→Prop)=>SyOk.mk2 Try.mixed dkHo_ok (FnsR.nil) EqsOk.nil) rfl Try.func31 (by kernel_rfl) (fun _ _=>LpsOk.nil _) (cs:=[true]) (by kernel_rfl) (rarm_w0 L Q ru ro n h0) w e vs hM ha
  ·rcases Bool.eq_false_or_eq_true (ro) with h1|h1
   ·exact ctr_way (I:=Id') (fun (W0:World) (G:Nat→Prop)=>SyOk.mk2 Try.mixed dkHo_ok (FnsR.nil) EqsOk.nil) rfl Try.func31 (by kernel_rfl) (fun _ _=>LpsOk.nil _) (cs:=[false,true]) (by kernel_rfl) (rarm_w1 L Q ru ro n h0 h1) w e vs hM ha
   ·exact ctr_way (I:=Id') (fun (W0:World) (G:Nat→Prop)=>SyOk.mk2 Try.mixed dkHo_ok (FnsR.nil) EqsOk.nil) rfl Try.func31 (by kernel_rfl) (fun _ _=>LpsOk.nil _) (cs:=[false,false]) (by kernel_rfl) (rarm_w2 L Q ru ro n h0 h1) w e vs hM ha
 ·cases h
end Go.Proofs.Ytonomiljclemnaa
set_option linter.unusedVariables false
set_option linter.unusedSimpArgs false
namespace Go.Proofs.Ytonomiljclemnaa
open Go.RowKit
set_option maxRecDepth 100000 in
theorem ris_n1 (L:List (List UInt8)) (Q:List (Int×List UInt8)) (ru:Int) (ro:Bool) (i:Int) (d dn:List UInt8) (k:Nat) (f:Nat→Value) (h0:decide ((k:Int)<(Q.length:Int))=true) (h1:IntKind.i64.wrap ((k:Int)+1)=((k+1:Nat):Int)) (h2:k<Q.length) (h3:((Q.getD ((k:Int).toNat) (0,[])).1==i)=true) (h4:(Q.getD ((k:Int).toNat) (0,[])).2=dn):∃ qs,alN Id' 4 [(5,.c (.one (.obj 4))),(6,.c (.one (.v (.int .i64 ((k+1:Nat):Int)))))] [⟨.bx [.obj 1,.obj 2,.v (.int .i64 ru),.v (.bool ro)],true⟩,⟨.us (.ext (.tab (.bs L))),true⟩,⟨.us (.ext (.tab (.wq 89 Q))),true⟩,⟨.dead,true⟩,⟨.us (.byt dn),false⟩] ((symC (⟨Try.prog,[],[],dkHo,Id'.one,60⟩:Sy Td) [] 42 (hdC (loopsC (bodyOf Try.f44)) 0) ⟨[(5,.c (.one (.obj 4))),(6,.c (.one (.v (.int .i64 (k:Int)))))]++anyB' (writesC (hdC (loopsC (bodyOf Try.f44)) 0)) ([(0,.c (.one (.ptr 0 0))),(1,.c (.one (.v (.int .i64 i))))]++tabV f 42),[⟨.bx [.obj 1,.obj 2,.v (.int .i64 ru),.v (.bool ro)],true⟩,⟨.us (.ext (.tab (.bs L))),true⟩,⟨.us (.ext (.tab (.wq 89 Q))),true⟩,⟨.dead,true⟩,⟨.us (.byt d),false⟩],0⟩).al [true,true])=some qs∧∀ q∈qs,q:=
 ⟨[decide ((↑k:Int)<(↑(TB.wq (89:TypeId) Q).n:Int))=true,(0:Int)≤(↑k:Int)∧(↑k:Int).toNat<(TB.wq (89:TypeId) Q).n,((TB.wq (89:TypeId) Q).int (↑k:Int)==i)=true,(0:Int)≤(↑k:Int)∧(↑k:Int).toNat<(TB.wq (89:TypeId) Q).n,Value.int IntKind.i64 ru=Value.int IntKind.i64 ru,Value.bool ro=Value.bool ro,Th.ext (Dk.tab (TB.bs L))=Th.ext (Dk.tab (TB.bs L)),Th.ext (Dk.tab (TB.wq 89 Q))=Th.ext (Dk.tab (TB.wq 89 Q)),(Th.byt (Q.getD (↑k:Int).toNat ((0:Int),[])).2:Td)=Th.byt dn,Value.int IntKind.i64 (IntKind.i64.wrap ((↑k:Int)+(1:Int)))=Value.int IntKind.i64 (↑(k+(1:Nat)):Int)],by kernel_rfl,(by refine mcons ?_ (mcons ?_ (mcons ?_ (mcons ?_ (mcons ?_ (mcons ?_ (mcons ?_ (mcons ?_ (mcons ?_ (mcons ?_ mnil)))))))))<;>first|rfl|exact h0|exact h1|exact h2|exact h3|exact h4|trivial|(exact ⟨by omega,by show (k:Int).toNat<Q.length;omega⟩)|(exact congrArg Th.byt h4)|(exact congrArg Th.byt h1)|(exact congrArg _ h1))⟩
set_option maxRecDepth 100000 in
theorem ris_n2 (L:List (List UInt8)) (Q:List (Int×List UInt8)) (ru:Int) (ro:Bool) (i:Int) (d dn:List UInt8) (k:Nat) (f:Nat→Value) (h0:decide ((k:Int)<(Q.length:Int))=true) (h1:IntKind.i64.wrap ((k:Int)+1)=((k+1:Nat):Int)) (h2:k<Q.length) (h3:((Q.getD ((k:Int).toNat) (0,[])).1==i)=false) (h4:d=dn):∃ qs,alN Id' 4 [(5,.c (.one (.obj 4))),(6,.c (.one (.v (.int .i64 ((k+1:Nat):Int)))))] [⟨.bx [.obj 1,.obj 2,.v (.int .i64 ru),.v (.bool ro)],true⟩,⟨.us (.ext (.tab (.bs L))),true⟩,⟨.us (.ext (.tab (.wq 89 Q))),true⟩,⟨.dead,true⟩,⟨.us (.byt dn),false⟩] ((symC (⟨Try.prog,[],[],dkHo,Id'.one,60⟩:Sy Td) [] 42 (hdC (loopsC (bodyOf Try.f44)) 0) ⟨[(5,.c (.one (.obj 4))),(6,.c (.one (.v (.int .i64 (k:Int)))))]++anyB' (writesC (hdC (loopsC (bodyOf Try.f44)) 0)) ([(0,.c (.one (.ptr 0 0))),(1,.c (.one (.v (.int .i64 i))))]++tabV f 42),[⟨.bx [.obj 1,.obj 2,.v (.int .i64 ru),.v (.bool ro)],true⟩,⟨.us (.ext (.tab (.bs L))),true⟩,⟨.us (.ext (.tab (.wq 89 Q))),true⟩,⟨.dead,true⟩,⟨.us (.byt d),false⟩],0⟩).al [true,false])=some qs∧∀ q∈qs,q:=
 ⟨[decide ((↑k:Int)<(↑(TB.wq (89:TypeId) Q).n:Int))=true,(0:Int)≤(↑k:Int)∧(↑k:Int).toNat<(TB.wq (89:TypeId) Q).n,((TB.wq (89:TypeId) Q).int (↑k:Int)==i)=false,Value.int IntKind.i64 ru=Value.int IntKind.i64 ru,Value.bool ro=Value.bool ro,Th.ext (Dk.tab (TB.bs L))=Th.ext (Dk.tab (TB.bs L)),Th.ext (Dk.tab (TB.wq 89 Q))=Th.ext (Dk.tab (TB.wq 89 Q)),(Th.byt d:Td)=Th.byt dn,Value.int IntKind.i64 (IntKind.i64.wrap ((↑k:Int)+(1:Int)))=Value.int IntKind.i64 (↑(k+(1:Nat)):Int)],by kernel_rfl,(by refine mcons ?_ (mcons ?_ (mcons ?_ (mcons ?_ (mcons ?_ (mcons ?_ (mcons ?_ (mcons ?_ (mcons ?_ mnil))))))))<;>first|rfl|exact h0|exact h1|exact h2|exact h3|exact h4|trivial|(exact ⟨by omega,by show (k:Int).toNat<Q.length;omega⟩)|(exact congrArg Th.byt h4)|(exact congrArg Th.byt h1)|(exact congrArg _ h1))⟩
set_option maxRecDepth 100000 in
theorem ris_x (L:List (List UInt8)) (Q:List (Int×List UInt8)) (ru:Int) (ro:Bool) (i:Int) (d dn:List UInt8) (k:Nat) (f:Nat→Value) (h0:decide ((k:Int)<(Q.length:Int))=false) (h1:d=dn):∃ qs,alX Id' 4 0 [(5,.c (.one (.obj 4)))] [⟨.bx [.obj 1,.obj 2,.v (.int .i64 ru),.v (.bool ro)],true⟩,⟨.us (.ext (.tab (.bs L))),true⟩,⟨.us (.ext (.tab (.wq 89 Q))),true⟩,⟨.dead,true⟩,⟨.us (.byt dn),false⟩] ((symC (⟨Try.prog,[],[],dkHo,Id'.one,60⟩:Sy Td) [] 42 (hdC (loopsC (bodyOf Try.f44)) 0) ⟨[(5,.c (.one (.obj 4))),(6,.c (.one (.v (.int .i64 (k:Int)))))]++anyB' (writesC (hdC (loopsC (bodyOf Try.f44)) 0)) ([(0,.c (.one (.ptr 0 0))),(1,.c (.one (.v (.int .i64 i))))]++tabV f 42),[⟨.bx [.obj 1,.obj 2,.v (.int .i64 ru),.v (.bool ro)],true⟩,⟨.us (.ext (.tab (.bs L))),true⟩,⟨.us (.ext (.tab (.wq 89 Q))),true⟩,⟨.dead,true⟩,⟨.us (.byt d),false⟩],0⟩).al [false])=some qs∧∀ q∈qs,q:=
 ⟨[decide ((↑k:Int)<(↑(TB.wq (89:TypeId) Q).n:Int))=false,Value.int IntKind.i64 ru=Value.int IntKind.i64 ru,Value.bool ro=Value.bool ro,Th.ext (Dk.tab (TB.bs L))=Th.ext (Dk.tab (TB.bs L)),Th.ext (Dk.tab (TB.wq 89 Q))=Th.ext (Dk.tab (TB.wq 89 Q)),(Th.byt d:Td)=Th.byt dn],by kernel_rfl,(by refine mcons ?_ (mcons ?_ (mcons ?_ (mcons ?_ (mcons ?_ (mcons ?_ mnil)))))<;>first|rfl|exact h0|exact h1|trivial|(exact ⟨by omega,by show (k:Int).toNat<Q.length;omega⟩)|(exact congrArg Th.byt h4)|(exact congrArg Th.byt h1)|(exact congrArg _ h1))⟩
set_option maxRecDepth 100000 in
theorem ris_lp (L:List (List UInt8)) (Q:List (Int×List UInt8)) (ru:Int) (ro:Bool) (i:Int) (hi:0≤i∧i.toNat<L.length) (hQ:Q.length≤100000) {W0:World} {G:Nat→Prop} (S0:Sy Td) (hS0:S0.P=Try.prog):LoopSound S0 Id' W0 G 42 (hdC (loopsC (bodyOf Try.f44)) 0) (lpG Id' 42 (hdC (loopsC (bodyOf Try.f44)) 0) 4 [(5,.c (.one (.obj 4))),(6,.c (.one (.v (.int .i64 ((0:Nat):Int)))))] [(0,.c (.one (.ptr 0 0))),(1,.c (.one (.v (.int .i64 i))))] [⟨.bx [.obj 1,.obj 2,.v (.int .i64 ru),.v (.bool ro)],true⟩,⟨.us (.ext (.tab (.bs L))),true⟩,⟨.us (.ext (.tab (.wq 89 Q))),true⟩,⟨.dead,true⟩,⟨.us (.byt (isQ (L.getD i.toNat []) Q i 0)),false⟩] (.leaf (.exit 0) [(5,.c (.one (.obj 4)))] [⟨.bx [.obj 1,.obj 2,.v (.int .i64 ru),.v (.bool ro)],true⟩,⟨.us (.ext (.tab (.bs L))),true⟩,⟨.us (.ext (.tab (.wq 89 Q))),true⟩,⟨.dead,true⟩,⟨.us (.byt (isD L Q i)),false⟩])):=by
 refine lp_sound (V:=fun k=>[(5,.c (.one (.obj 4))),(6,.c (.one (.v (.int .i64 (k:Int)))))]) (M:=(fun k=>[⟨.bx [.obj 1,.obj 2,.v (.int .i64 ru),.v (.bool ro)],true⟩,⟨.us (.ext (.tab (.bs L))),true⟩,⟨.us (.ext (.tab (.wq 89 Q))),true⟩,⟨.dead,true⟩,⟨.us (.byt (isQ (L.getD i.toNat []) Q i k)),false⟩]:Nat→Mem Td)) (N:=100000) (Ux:=fun k x=>match x with|.exit 0=>some ([(5,.c (.one (.obj 4)))],([⟨.bx [.obj 1,.obj 2,.v (.int .i64 ru),.v (.bool ro)],true⟩,⟨.us (.ext (.tab (.bs L))),true⟩,⟨.us (.ext (.tab (.wq 89 Q))),true⟩,⟨.dead,true⟩,⟨.us (.byt (isD L Q i)),false⟩]:Mem Td))|_=>none) (X:=fun _ _=>True) (J:=fun k=>k≤Q.length) (fun k=>by kernel_rfl) (Nat.zero_le _) (fun k hk hJ f=>?_) (fun K hK k x U hk hU hX=>?_)
 ·rw [hS0]
  cases hT:decide ((k:Int)<(Q.length:Int)) with
  |false=>
   have hk1:¬ k<Q.length:=by rw [ltNI hT];simp
   exact rnd_xD (⟨Try.prog,[],[],dkHo,Id'.one,60⟩:Sy Td) rfl ((fun (W0:World) (G:Nat→Prop)=>SyOk.mk2 Try.mixed dkHo_ok (FnsR.nil) EqsOk.nil) W0 G) (ris_x L Q ru ro i _ _ k f hT (isQ_all hk1 hJ)) rfl trivial
  |true=>
   have hk1:k<Q.length:=by rw [ltNI hT]
   have hW:IntKind.i64.wrap ((k:Int)+1)=((k+1:Nat):Int):=by rw [IntWalk.i64_in _ (by omega)];omega
   cases hE:(Q.getD ((k:Int).toNat) (0,[])).1==i with
   |true=>exact rnd_nD (⟨Try.prog,[],[],dkHo,Id'.one,60⟩:Sy Td) rfl ((fun (W0:World) (G:Nat→Prop)=>SyOk.mk2 Try.mixed dkHo_ok (FnsR.nil) EqsOk.nil) W0 G) (ris_n1 L Q ru ro i _ _ k f hT hW hk1 hE (isQ_yes hE).symm) rfl rfl (by omega) (by omega)
   |false=>exact rnd_nD (⟨Try.prog,[],[],dkHo,Id'.one,60⟩:Sy Td) rfl ((fun (W0:World) (G:Nat→Prop)=>SyOk.mk2 Try.mixed dkHo_ok (FnsR.nil) EqsOk.nil) W0 G) (ris_n2 L Q ru ro i _ _ k f hT hW hk1 hE (isQ_no hE).symm) rfl rfl (by omega) (by omega)
 ·revert hU
  match x with
  |.exit 0=>intro hU;simp only [Option.some.injEq] at hU;subst hU;exact hK
  |.normal=>intro hU;cases hU
  |.ret=>intro hU;cases hU
  |.exit (n+1)=>intro hU;cases hU
set_option maxRecDepth 100000 in
theorem ris_w0 (L:List (List UInt8)) (Q:List (Int×List UInt8)) (ru:Int) (ro:Bool) (i:Int) (h0:0≤i∧i.toNat<L.length):∃ qs,wayO Id' ([⟨.bx [.obj 1,.obj 2,.v (.int .i64 ru),.v (.bool ro)],true⟩,⟨.us (.ext (.tab (.bs L))),true⟩,⟨.us (.ext (.tab (.wq 89 Q))),true⟩]:Mem Td).length [⟨.bx [.obj 1,.obj 2,.v (.int .i64 ru),.v (.bool ro)],true⟩,⟨.us (.ext (.tab (.bs L))),true⟩,⟨.us (.ext (.tab (.wq 89 Q))),true⟩,⟨.us (.byt (isD L Q i)),false⟩] (.c (.one (.obj 3))) ((runFn (⟨Try.prog,[],[],dkHo,Id'.one,60⟩:Sy Td) [(3,(lpG Id' 42 (hdC (loopsC (bodyOf Try.f44)) 0) 4 [(5,.c (.one (.obj 4))),(6,.c (.one (.v (.int .i64 ((0:Nat):Int)))))] [(0,.c (.one (.ptr 0 0))),(1,.c (.one (.v (.int .i64 i))))] [⟨.bx [.obj 1,.obj 2,.v (.int .i64 ru),.v (.bool ro)],true⟩,⟨.us (.ext (.tab (.bs L))),true⟩,⟨.us (.ext (.tab (.wq 89 Q))),true⟩,⟨.dead,true⟩,⟨.us (.byt (isQ (L.getD i.toNat []) Q i 0)),false⟩] (.leaf (.exit 0) [(5,.c (.one (.obj 4)))] [⟨.bx [.obj 1,.obj 2,.v (.int .i64 ru),.v (.bool ro)],true⟩,⟨.us (.ext (.tab (.bs L))),true⟩,⟨.us (.ext (.tab (.wq 89 Q))),true⟩,⟨.dead,true⟩,⟨.us (.byt (isD L Q i)),false⟩])))] Try.f44 [.one (.ptr 0 0),.one (.v (.int .i64 i))] [⟨.bx [.obj 1,.obj 2,.v (.int .i64 ru),.v (.bool ro)],true⟩,⟨.us (.ext (.tab (.bs L))),true⟩,⟨.us (.ext (.tab (.wq 89 Q))),true⟩]).al [])=some qs∧∀ q∈qs,q:=
 ⟨[(0:Int)≤i∧i.toNat<(TB.bs L).n,Value.int IntKind.i64 i=Value.int IntKind.i64 i,Value.int IntKind.i64 ru=Value.int IntKind.i64 ru,Value.bool ro=Value.bool ro,Th.ext (Dk.tab (TB.bs L))=Th.ext (Dk.tab (TB.bs L)),Th.ext (Dk.tab (TB.wq 89 Q))=Th.ext (Dk.tab (TB.wq 89 Q)),(Th.byt ((TB.bs L).byt i):Td)=Th.byt (isQ (L.getD i.toNat []) Q i (0:Nat)),Value.int IntKind.i64 (Int.ofNat 0)=Value.int IntKind.i64 (Int.ofNat (0:Nat)),Value.int IntKind.i64 ru=Value.int IntKind.i64 ru,Value.bool ro=Value.bool ro,Th.ext (Dk.tab (TB.bs L))=Th.ext (Dk.tab (TB.bs L)),Th.ext (Dk.tab (TB.wq 89 Q))=Th.ext (Dk.tab (TB.wq 89 Q)),(Th.byt (isQ (L.getD i.toNat []) Q i Q.length):Td)=Th.byt (isQ (L.getD i.toNat []) Q i Q.length)],by kernel_rfl,(by refine mcons ?_ (mcons ?_ (mcons ?_ (mcons ?_ (mcons ?_ (mcons ?_ (mcons ?_ (mcons ?_ (mcons ?_ (mcons ?_ (mcons ?_ (mcons ?_ (mcons ?_ mnil))))))))))))<;>first|rfl|exact h0|trivial|(exact ⟨h0.1,by show i.toNat<L.length;exact h0.2⟩)|rfl)⟩
def C_ris:Ctr Td:=fun us sub=>match us,sub with
 |[.one (.ptr 0 0),.one (.v (.int .i64 i))],[⟨.bx [.obj 1,.obj 2,.v (.int .i64 ru),.v (.bool ro)],true⟩,⟨.us (.ext (.tab (.bs L))),true⟩,⟨.us (.ext (.tab (.wq 89 Q))),true⟩]=>some ([0≤i∧i.toNat<L.length,Q.length≤100000],.c (.one (.obj 3)),[⟨.bx [.obj 1,.obj 2,.v (.int .i64 ru),.v (.bool ro)],true⟩,⟨.us (.ext (.tab (.bs L))),true⟩,⟨.us (.ext (.tab (.wq 89 Q))),true⟩,⟨.us (.byt (isD L Q i)),false⟩])
 |_,_=>none
set_option maxRecDepth 100000 in
theorem C_ris_ok:CtrOk Try.prog Id' 44 C_ris:=by
 intro us sub ps x sm h hp w e vs hM ha
 unfold C_ris at h
 split at h
 ·rename_i i ru ro L Q
  simp only [Option.some.injEq,Prod.mk.injEq] at h
  obtain ⟨rfl,rfl,rfl⟩:=h
  have hi:=hp _ (List.mem_cons_self ..)
  have hQ:=hp _ (List.mem_cons_of_mem _ (List.mem_cons_self ..))
  exact ctr_way (I:=Id') (fun (W0:World) (G:Nat→Prop)=>SyOk.mk2 Try.mixed dkHo_ok (FnsR.nil) EqsOk.nil) rfl Try.func44 (by kernel_rfl) (fun _ _=>LpsOk.cons (by kernel_rfl) (ris_lp L Q ru ro i hi hQ _ rfl) (LpsOk.nil _)) (cs:=[]) (by kernel_rfl) (ris_w0 L Q ru ro i hi) w e vs hM ha
 ·cases h
theorem R_ris:RowOk Try.prog Id' hardD 44 (ctrF Id' C_ris hardD):=ctrF_ok Try.call44 C_ris_ok
end Go.Proofs.Ytonomiljclemnaa
set_option linter.unusedVariables false
set_option linter.unusedSimpArgs false
namespace Go.Proofs.Ytonomiljclemnaa
open Go.RowKit
def rdBad (i n:Int):Bool:=decide (i<0)||decide (i≥n)
def rwE (i n m:Int) (ro:Bool) (ru:Int):Int:=bif rdBad i n||m != 128 then 2 else bif rOff ro ru then 7 else 0
def rwFu (i n m:Int) (ru:Int):Int:=bif rdBad i n||m != 128 then ru else rFu ru
def rwOff (i n m:Int) (ro:Bool) (ru:Int):Bool:=bif rdBad i n||m != 128 then ro else rOff ro ru
def rwQ (Q:List (Int×List UInt8)) (i n:Int) (b:List UInt8) (ro:Bool) (ru:Int):List (Int×List UInt8):=bif rwE i n (b.length:Int) ro ru==0 then Q++[(i,b)] else Q
def rfE (ro:Bool) (ru:Int):Int:=bif rOff ro ru then 7 else 0
def rfL (L:List (List UInt8)) (Q:List (Int×List UInt8)) (ro:Bool) (ru:Int):List (List UInt8):=bif rOff ro ru then L else flD L Q
def rfQ (Q:List (Int×List UInt8)) (ro:Bool) (ru:Int):List (Int×List UInt8):=bif rOff ro ru then Q else []
theorem nil_tabQ {t:TypeId} {X:List (Int×List UInt8)} (h:X=[]):∀ w,Id'.holds (Th.ext (Dk.tab (.wq t X)):Td) w nilV∧∀ j,¬ Id'.foot (Th.ext (Dk.tab (.wq t X)):Td) w nilV j:=by
 subst h
 refine fun w=>⟨⟨(fun r hr=>by cases hr),(fun r hr=>by cases hr),[],rfl,⟨0,Nat.zero_le _,owns_nilV w 0 _ _⟩,fun i v r hv _=>by cases hv⟩,fun j h=>?_⟩
 rcases h with h|⟨i,r,v,h,_⟩
 ·cases h
 ·cases h
theorem nil_tabL {X:List (List UInt8)} (h:X=[]):∀ w,Id'.holds (Th.ext (Dk.tab (.bs X)):Td) w nilV∧∀ j,¬ Id'.foot (Th.ext (Dk.tab (.bs X)):Td) w nilV j:=by
 subst h
 refine fun w=>⟨⟨(fun r hr=>by cases hr),(fun r hr=>by cases hr),[],rfl,⟨0,Nat.zero_le _,owns_nilV w 0 _ _⟩,fun i v r hv _=>by cases hv⟩,fun j h=>?_⟩
 rcases h with h|⟨i,r,v,h,_⟩
 ·cases h
 ·cases h
set_option maxRecDepth 100000 in
theorem rcopyS_w0 (b:List UInt8) (lo hi:Nat) (h0:hi - lo≤1000000):∃ qs,wayO Id' ([⟨.us (.byt b),false⟩]:Mem Td).length [⟨.us (.byt b),false⟩,⟨.us (.own ((b.drop lo).take (hi - lo))),true⟩] (.c (.one (.obj 1))) ((runFn (⟨Try.prog,[],[],dkHo,Id'.one,60⟩:Sy Td) [] Try.f25 [.one (.sub 0 1 lo hi)] [⟨.us (.byt b),false⟩]).al [])=some qs∧∀ q∈qs,q:=
 ⟨[(List.take (hi - lo) (List.drop lo b)).length≤(1000000:Nat),(Th.byt b:Td)=Th.byt b,(Th.own ((Nat.brecOn.go (motive:=fun x=>List UInt8→List UInt8) (hi - lo) List.take._f).1 (List.drop lo b)):Td)=Th.own ((Nat.brecOn.go (motive:=fun x=>List UInt8→List UInt8) (hi - lo) List.take._f).1 (List.drop lo b))],by kernel_rfl,(by refine mcons ?_ (mcons ?_ (mcons ?_ mnil))<;>first|rfl|exact h0|trivial|(exact Nat.le_trans (List.length_take_le _ _) h0))⟩
def C_rcopyS:Ctr Td:=fun us sub=>match us,sub with
 |[.one (.sub 0 1 lo hi)],[⟨.us (.byt b),false⟩]=>some ([hi - lo≤1000000],.c (.one (.obj 1)),[⟨.us (.byt b),false⟩,⟨.us (.own ((b.drop lo).take (hi - lo))),true⟩])
 |_,_=>none
set_option maxRecDepth 100000 in
theorem C_rcopyS_ok:CtrOk Try.prog Id' 25 C_rcopyS:=by
 intro us sub ps x sm h hp w e vs hM ha
 unfold C_rcopyS at h
 split at h
 ·rename_i lo hi b
  simp only [Option.some.injEq,Prod.mk.injEq] at h
  obtain ⟨rfl,rfl,rfl⟩:=h
  exact ctr_way (I:=Id') (fun (W0:World) (G:Nat→Prop)=>SyOk.mk2 Try.mixed dkHo_ok (FnsR.nil) EqsOk.nil) rfl Try.func25 (by kernel_rfl) (fun _ _=>LpsOk.nil _) (cs:=[]) (by kernel_rfl) (rcopyS_w0 b lo hi (hp _ (List.mem_cons_self ..))) w e vs hM ha
 ·cases h
theorem R_rcopyS:RowOk Try.prog Id' hardD 25 (ctrF Id' C_rcopyS hardD):=ctrF_ok Try.call25 C_rcopyS_ok
def C_rreadB:Ctr Td:=fun us sub=>match us,sub with
 |[.one (.ptr 0 0),.one (.v (.int .i64 i))],[⟨.bx [.obj 1,.obj 2,.v (.int .i64 ru),.v (.bool ro)],true⟩,⟨.us (.ext (.tab (.bs L))),true⟩,⟨.us (.ext (.tab (.wq 89 Q))),true⟩]=>some ([rdBad i (L.length:Int)=true],.tup [.one (.v (.slice none 0 0)),.one (.kI .i64 2)],[⟨.bx [.obj 1,.obj 2,.v (.int .i64 ru),.v (.bool ro)],true⟩,⟨.us (.ext (.tab (.bs L))),true⟩,⟨.us (.ext (.tab (.wq 89 Q))),true⟩])
 |_,_=>none
set_option maxRecDepth 100000 in
theorem rwrite_w0 (L:List (List UInt8)) (Q:List (Int×List UInt8)) (ru:Int) (ro:Bool) (i:Int) (b:List UInt8) (h0:(rdBad i (L.length:Int)||(b.length:Int) != 128)=true):∃ qs,wayO Id' ([⟨.bx [.obj 2,.obj 3,.v (.int .i64 ru),.v (.bool ro)],true⟩,⟨.us (.own b),true⟩,⟨.us (.ext (.tab (.bs L))),true⟩,⟨.us (.ext (.tab (.wq 89 Q))),true⟩]:Mem Td).length [⟨.bx [.obj 2,.obj 4,.v (.int .i64 (rwFu i (L.length:Int) (b.length:Int) ru)),.v (.bool (rwOff i (L.length:Int) (b.length:Int) ro ru))],true⟩,⟨.us (.own b),true⟩,⟨.us (.ext (.tab (.bs L))),true⟩,⟨.dead,true⟩,⟨.us (.ext (.tab (.wq 89 (rwQ Q i (L.length:Int) b ro ru)))),true⟩] (svV (.int .i64 (rwE i (L.length:Int) (b.length:Int) ro ru))) ((runFn (⟨Try.prog,[(43,ctrF Id' C_rstep hardD),(25,ctrF Id' C_rcopyO hardD)],[],dkHo,Id'.one,60⟩:Sy Td) [] Try.f27 [.one (.ptr 0 0),.one (.v (.int .i64 i)),.one (.obj 1)] [⟨.bx [.obj 2,.obj 3,.v (.int .i64 ru),.v (.bool ro)],true⟩,⟨.us (.own b),true⟩,⟨.us (.ext (.tab (.bs L))),true⟩,⟨.us (.ext (.tab (.wq 89 Q))),true⟩]).al [true])=some qs∧∀ q∈qs,q:=
 ⟨[(decide (i<(0:Int))||decide (i≥(↑(TB.bs L).n:Int))||(↑b.length:Int) != (128:Int))=true,Value.int IntKind.i64 ru=Value.int IntKind.i64 (rwFu i (↑L.length:Int) (↑b.length:Int) ru),Value.bool ro=Value.bool (rwOff i (↑L.length:Int) (↑b.length:Int) ro ru),(Th.own b:Td)=Th.own b,Th.ext (Dk.tab (TB.bs L))=Th.ext (Dk.tab (TB.bs L)),Th.ext (Dk.tab (TB.wq 89 Q))=Th.ext (Dk.tab (TB.wq 89 (rwQ Q i (↑L.length:Int) b ro ru))),Value.int IntKind.i64 (Int.ofNat 2)=Value.int IntKind.i64 (rwE i (↑L.length:Int) (↑b.length:Int) ro ru)],by kernel_rfl,(by refine mcons ?_ (mcons ?_ (mcons ?_ (mcons ?_ (mcons ?_ (mcons ?_ (mcons ?_ mnil))))))<;>first|rfl|exact h0|trivial|(simp only [rwE,rwFu,rwOff,rwQ,h0,h1,cond_true,cond_false];done)|(simp only [rwE,rwFu,rwOff,rwQ,h0,h1,cond_true,cond_false];rfl)|(simp [rwE,rwFu,rwOff,rwQ,h0,h1];done)|(simp only [rwE,rwFu,rwOff,rwQ,h0,cond_true,cond_false];done)|(simp only [rwE,rwFu,rwOff,rwQ,h0,cond_true,cond_false];rfl)|(simp [rwE,rwFu,rwOff,rwQ,h0];done)|(exact (by omega))|(exact (by rw [h3];decide)))⟩
set_option maxRecDepth 100000 in
theorem rwrite_w1 (L:List (List UInt8)) (Q:List (Int×List UInt8)) (ru:Int) (ro:Bool) (i:Int) (b:List UInt8) (h0:(rdBad i (L.length:Int)||(b.length:Int) != 128)=false) (h1:rOff ro ru=true):∃ qs,wayO Id' ([⟨.bx [.obj 2,.obj 3,.v (.int .i64 ru),.v (.bool ro)],true⟩,⟨.us (.own b),true⟩,⟨.us (.ext (.tab (.bs L))),true⟩,⟨.us (.ext (.tab (.wq 89 Q))),true⟩]:Mem Td).length [⟨.bx [.obj 2,.obj 4,.v (.int .i64 (rwFu i (L.length:Int) (b.length:Int) ru)),.v (.bool (rwOff i (L.length:Int) (b.length:Int) ro ru))],true⟩,⟨.us (.own b),true⟩,⟨.us (.ext (.tab (.bs L))),true⟩,⟨.dead,true⟩,⟨.us (.ext (.tab (.wq 89 (rwQ Q i (L.length:Int) b ro ru)))),true⟩] (svV (.int .i64 (rwE i (L.length:Int) (b.length:Int) ro ru))) ((runFn (⟨Try.prog,[(43,ctrF Id' C_rstep hardD),(25,ctrF Id' C_rcopyO hardD)],[],dkHo,Id'.one,60⟩:Sy Td) [] Try.f27 [.one (.ptr 0 0),.one (.v (.int .i64 i)),.one (.obj 1)] [⟨.bx [.obj 2,.obj 3,.v (.int .i64 ru),.v (.bool ro)],true⟩,⟨.us (.own b),true⟩,⟨.us (.ext (.tab (.bs L))),true⟩,⟨.us (.ext (.tab (.wq 89 Q))),true⟩]).al [false,true])=some qs∧∀ q∈qs,q:=
 ⟨[(decide (i<(0:Int))||decide (i≥(↑(TB.bs L).n:Int))||(↑b.length:Int) != (128:Int))=false,(!!rOff ro ru)=true,Value.int IntKind.i64 (rFu ru)=Value.int IntKind.i64 (rwFu i (↑L.length:Int) (↑b.length:Int) ru),Value.bool (rOff ro ru)=Value.bool (rwOff i (↑L.length:Int) (↑b.length:Int) ro ru),(Th.own b:Td)=Th.own b,Th.ext (Dk.tab (TB.bs L))=Th.ext (Dk.tab (TB.bs L)),Th.ext (Dk.tab (TB.wq 89 Q))=Th.ext (Dk.tab (TB.wq 89 (rwQ Q i (↑L.length:Int) b ro ru))),Value.int IntKind.i64 (Int.ofNat 7)=Value.int IntKind.i64 (rwE i (↑L.length:Int) (↑b.length:Int) ro ru)],by kernel_rfl,(by refine mcons ?_ (mcons ?_ (mcons ?_ (mcons ?_ (mcons ?_ (mcons ?_ (mcons ?_ (mcons ?_ mnil)))))))<;>first|rfl|exact h0|exact h1|trivial|(simp only [rwE,rwFu,rwOff,rwQ,h0,h1,cond_true,cond_false];done)|(simp only [rwE,rwFu,rwOff,rwQ,h0,h1,cond_true,cond_false];rfl)|(simp [rwE,rwFu,rwOff,rwQ,h0,h1];done)|(simp only [rwE,rwFu,rwOff,rwQ,h0,cond_true,cond_false];done)|(simp only [rwE,rwFu,rwOff,rwQ,h0,cond_true,cond_false];rfl)|(simp [rwE,rwFu,rwOff,rwQ,h0];done)|(exact (by omega))|(exact (by rw [h3];decide)))⟩
set_option maxRecDepth 100000 in
theorem rwrite_w2 (L:List (List UInt8)) (Q:List (Int×List UInt8)) (ru:Int) (ro:Bool) (i:Int) (b:List UInt8) (h0:(rdBad i (L.length:Int)||(b.length:Int) != 128)=false) (h1:rOff ro ru=false) (h2:Q.length+1≤100000) (h3:b.length=128):∃ qs,wayO Id' ([⟨.bx [.obj 2,.obj 3,.v (.int .i64 ru),.v (.bool ro)],true⟩,⟨.us (.own b),true⟩,⟨.us (.ext (.tab (.bs L))),true⟩,⟨.us (.ext (.tab (.wq 89 Q))),true⟩]:Mem Td).length [⟨.bx [.obj 2,.obj 4,.v (.int .i64 (rwFu i (L.length:Int) (b.length:Int) ru)),.v (.bool (rwOff i (L.length:Int) (b.length:Int) ro ru))],true⟩,⟨.us (.own b),true⟩,⟨.us (.ext (.tab (.bs L))),true⟩,⟨.dead,true⟩,⟨.us (.ext (.tab (.wq 89 (rwQ Q i (L.length:Int) b ro ru)))),true⟩] (svV (.int .i64 (rwE i (L.length:Int) (b.length:Int) ro ru))) ((runFn (⟨Try.prog,[(43,ctrF Id' C_rstep hardD),(25,ctrF Id' C_rcopyO hardD)],[],dkHo,Id'.one,60⟩:Sy Td) [] Try.f27 [.one (.ptr 0 0),.one (.v (.int .i64 i)),.one (.obj 1)] [⟨.bx [.obj 2,.obj 3,.v (.int .i64 ru),.v (.bool ro)],true⟩,⟨.us (.own b),true⟩,⟨.us (.ext (.tab (.bs L))),true⟩,⟨.us (.ext (.tab (.wq 89 Q))),true⟩]).al [false,false])=some qs∧∀ q∈qs,q:=
 ⟨[(decide (i<(0:Int))||decide (i≥(↑(TB.bs L).n:Int))||(↑b.length:Int) != (128:Int))=false,(!!rOff ro ru)=false,(TB.wq (89:TypeId) Q).n+(TB.wq (89:TypeId) [(i,b)]).n≤(100000:Nat),b.length≤(1000000:Nat),(En.mk (Ob.us (Th.own b)) true:En Td)=En.mk (Ob.us (Th.own b)) true,Value.int IntKind.i64 (rFu ru)=Value.int IntKind.i64 (rwFu i (↑L.length:Int) (↑b.length:Int) ru),Value.bool (rOff ro ru)=Value.bool (rwOff i (↑L.length:Int) (↑b.length:Int) ro ru),(Th.own b:Td)=Th.own b,Th.ext (Dk.tab (TB.bs L))=Th.ext (Dk.tab (TB.bs L)),Th.ext (Dk.tab (TB.wq 89 (Q++[(i,b)])))=Th.ext (Dk.tab (TB.wq 89 (rwQ Q i (↑L.length:Int) b ro ru))),Value.int IntKind.i64 (Int.ofNat 0)=Value.int IntKind.i64 (rwE i (↑L.length:Int) (↑b.length:Int) ro ru)],by kernel_rfl,(by refine mcons ?_ (mcons ?_ (mcons ?_ (mcons ?_ (mcons ?_ (mcons ?_ (mcons ?_ (mcons ?_ (mcons ?_ (mcons ?_ (mcons ?_ mnil))))))))))<;>first|rfl|exact h0|exact h1|exact h2|exact h3|trivial|(simp only [rwE,rwFu,rwOff,rwQ,h0,h1,cond_true,cond_false];done)|(simp only [rwE,rwFu,rwOff,rwQ,h0,h1,cond_true,cond_false];rfl)|(simp [rwE,rwFu,rwOff,rwQ,h0,h1];done)|(simp only [rwE,rwFu,rwOff,rwQ,h0,cond_true,cond_false];done)|(simp only [rwE,rwFu,rwOff,rwQ,h0,cond_true,cond_false];rfl)|(simp [rwE,rwFu,rwOff,rwQ,h0];done)|(exact (by omega))|(exact (by rw [h3];decide)))⟩
def C_rwrite:Ctr Td:=fun us sub=>match us,sub with
 |[.one (.ptr 0 0),.one (.v (.int .i64 i)),.one (.obj 1)],[⟨.bx [.obj 2,.obj 3,.v (.int .i64 ru),.v (.bool ro)],true⟩,⟨.us (.own b),true⟩,⟨.us (.ext (.tab (.bs L))),true⟩,⟨.us (.ext (.tab (.wq 89 Q))),true⟩]=>some ([Q.length+1≤100000],svV (.int .i64 (rwE i (L.length:Int) (b.length:Int) ro ru)),[⟨.bx [.obj 2,.obj 4,.v (.int .i64 (rwFu i (L.length:Int) (b.length:Int) ru)),.v (.bool (rwOff i (L.length:Int) (b.length:Int) ro ru))],true⟩,⟨.us (.own b),true⟩,⟨.us (.ext (.tab (.bs L))),true⟩,⟨.dead,true⟩,⟨.us (.ext (.tab (.wq 89 (rwQ Q i (L.length:Int) b ro ru)))),true⟩])
 |_,_=>none
set_option maxRecDepth 100000 in
theorem C_rwrite_ok:CtrOk Try.prog Id' 27 C_rwrite:=by
 intro us sub ps x sm h hp w e vs hM ha
 unfold C_rwrite at h
 split at h
 ·rename_i i ru ro b L Q
  simp only [Option.some.injEq,Prod.mk.injEq] at h
  obtain ⟨rfl,rfl,rfl⟩:=h
  rcases Bool.eq_false_or_eq_true ((rdBad i (L.length:Int)||(b.length:Int) != 128)) with h0|h0
  ·exact ctr_way (I:=Id') (fun (W0:World) (G:Nat→Prop)=>SyOk.mk2 Try.mixed dkHo_ok (FnsR.cons (R_rstep) (FnsR.cons (R_rcopyO) (FnsR.nil))) EqsOk.nil) rfl Try.func27 (by kernel_rfl) (fun _ _=>LpsOk.nil _) (cs:=[true]) (by kernel_rfl) (rwrite_w0 L Q ru ro i b h0) w e vs hM ha
  ·rcases Bool.eq_false_or_eq_true (rOff ro ru) with h1|h1
   ·exact ctr_way (I:=Id') (fun (W0:World) (G:Nat→Prop)=>SyOk.mk2 Try.mixed dkHo_ok (FnsR.cons (R_rstep) (FnsR.cons (R_rcopyO) (FnsR.nil))) EqsOk.nil) rfl Try.func27 (by kernel_rfl) (fun _ _=>LpsOk.nil _) (cs:=[false,true]) (by kernel_rfl) (rwrite_w1 L Q ru ro i b h0 h1) w e vs hM ha
   ·have hb:b.length=128:=by
     have h2:((b.length:Int) != 128)=false:=by revert h0;cases ((b.length:Int) != 128)<;>simp
     have:=eq_of_beq (by simpa [bne] using h2:((b.length:Int)==128)=true)
     omega
    exact ctr_way (I:=Id') (fun (W0:World) (G:Nat→Prop)=>SyOk.mk2 Try.mixed dkHo_ok (FnsR.cons (R_rstep) (FnsR.cons (R_rcopyO) (FnsR.nil))) EqsOk.nil) rfl Try.func27 (by kernel_rfl) (fun _ _=>LpsOk.nil _) (cs:=[false,false]) (by kernel_rfl) (rwrite_w2 L Q ru ro i b h0 h1 (hp _ (List.mem_cons_self ..)) hb) w e vs hM ha
 ·cases h
theorem R_rwrite:RowOk Try.prog Id' hardD 27 (ctrF Id' C_rwrite hardD):=ctrF_ok Try.call27 C_rwrite_ok
end Go.Proofs.Ytonomiljclemnaa
set_option linter.unusedVariables false
set_option linter.unusedSimpArgs false
namespace Go.Proofs.Ytonomiljclemnaa
open Go.RowKit
set_option maxRecDepth 100000 in
theorem rflush_n (L:List (List UInt8)) (Q:List (Int×List UInt8)) (ru:Int) (ro:Bool) (Lk Ln:List (List UInt8)) (k:Nat) (f:Nat→Value) (h0:decide ((k:Int)<(Q.length:Int))=true) (h1:IntKind.i64.wrap ((k:Int)+1)=((k+1:Nat):Int)) (h2:k<Q.length) (h3:0≤(Q.getD ((k:Int).toNat) (0,[])).1∧(Q.getD ((k:Int).toNat) (0,[])).1.toNat<Lk.length) (h4:Lk.set (Q.getD ((k:Int).toNat) (0,[])).1.toNat (Q.getD ((k:Int).toNat) (0,[])).2=Ln):∃ qs,alN Id' 3 [(3,.c (.one (.v (.int .i64 ((k+1:Nat):Int)))))] [⟨.bx [.obj 1,.obj 2,.v (.int .i64 ru),.v (.bool ro)],true⟩,⟨.us (.ext (.tab (.bs Ln))),true⟩,⟨.us (.ext (.tab (.wq 89 Q))),true⟩] ((symC (⟨Try.prog,[],[],dkHo,Id'.one,60⟩:Sy Td) [] 40 (hdC (loopsC (bodyOf Try.f28)) 0) ⟨[(3,.c (.one (.v (.int .i64 (k:Int)))))]++anyB' (writesC (hdC (loopsC (bodyOf Try.f28)) 0)) ([(0,.c (.one (.ptr 0 0)))]++tabV f 40),[⟨.bx [.obj 1,.obj 2,.v (.int .i64 ru),.v (.bool ro)],true⟩,⟨.us (.ext (.tab (.bs Lk))),true⟩,⟨.us (.ext (.tab (.wq 89 Q))),true⟩],0⟩).al [true])=some qs∧∀ q∈qs,q:=
 ⟨[decide ((↑k:Int)<(↑(TB.wq (89:TypeId) Q).n:Int))=true,(0:Int)≤(TB.wq (89:TypeId) Q).int (↑k:Int)∧((TB.wq (89:TypeId) Q).int (↑k:Int)).toNat<(TB.bs Lk).n,(0:Int)≤(↑k:Int)∧(↑k:Int).toNat<(TB.wq (89:TypeId) Q).n,(0:Int)≤(↑k:Int)∧(↑k:Int).toNat<(TB.wq (89:TypeId) Q).n,Value.int IntKind.i64 ru=Value.int IntKind.i64 ru,Value.bool ro=Value.bool ro,Th.ext (Dk.tab (TB.bs (List.set Lk ((TB.wq (89:TypeId) Q).int (↑k:Int)).toNat ((TB.wq (89:TypeId) Q).byt (↑k:Int)))))=Th.ext (Dk.tab (TB.bs Ln)),Th.ext (Dk.tab (TB.wq 89 Q))=Th.ext (Dk.tab (TB.wq 89 Q)),Value.int IntKind.i64 (IntKind.i64.wrap ((↑k:Int)+(1:Int)))=Value.int IntKind.i64 (↑(k+(1:Nat)):Int)],by kernel_rfl,(by refine mcons ?_ (mcons ?_ (mcons ?_ (mcons ?_ (mcons ?_ (mcons ?_ (mcons ?_ (mcons ?_ (mcons ?_ mnil))))))))<;>first|rfl|exact h0|exact h1|exact h2|exact h3|exact h4|trivial|(exact ⟨by omega,by show (k:Int).toNat<Q.length;omega⟩)|(exact h3)|(exact congrArg (fun x=>Th.ext (Dk.tab (.bs x))) h4)|(exact congrArg (fun x=>Th.ext (Dk.tab (.bs x))) h1)|(exact congrArg _ h1))⟩
set_option maxRecDepth 100000 in
theorem rflush_x (L:List (List UInt8)) (Q:List (Int×List UInt8)) (ru:Int) (ro:Bool) (Lk Ln:List (List UInt8)) (k:Nat) (f:Nat→Value) (h0:decide ((k:Int)<(Q.length:Int))=false) (h1:Lk=Ln):∃ qs,alX Id' 3 0 [] [⟨.bx [.obj 1,.obj 2,.v (.int .i64 ru),.v (.bool ro)],true⟩,⟨.us (.ext (.tab (.bs Ln))),true⟩,⟨.us (.ext (.tab (.wq 89 Q))),true⟩] ((symC (⟨Try.prog,[],[],dkHo,Id'.one,60⟩:Sy Td) [] 40 (hdC (loopsC (bodyOf Try.f28)) 0) ⟨[(3,.c (.one (.v (.int .i64 (k:Int)))))]++anyB' (writesC (hdC (loopsC (bodyOf Try.f28)) 0)) ([(0,.c (.one (.ptr 0 0)))]++tabV f 40),[⟨.bx [.obj 1,.obj 2,.v (.int .i64 ru),.v (.bool ro)],true⟩,⟨.us (.ext (.tab (.bs Lk))),true⟩,⟨.us (.ext (.tab (.wq 89 Q))),true⟩],0⟩).al [false])=some qs∧∀ q∈qs,q:=
 ⟨[decide ((↑k:Int)<(↑(TB.wq (89:TypeId) Q).n:Int))=false,Value.int IntKind.i64 ru=Value.int IntKind.i64 ru,Value.bool ro=Value.bool ro,Th.ext (Dk.tab (TB.bs Lk))=Th.ext (Dk.tab (TB.bs Ln)),Th.ext (Dk.tab (TB.wq 89 Q))=Th.ext (Dk.tab (TB.wq 89 Q))],by kernel_rfl,(by refine mcons ?_ (mcons ?_ (mcons ?_ (mcons ?_ (mcons ?_ mnil))))<;>first|rfl|exact h0|exact h1|trivial|(exact ⟨by omega,by show (k:Int).toNat<Q.length;omega⟩)|(exact h3)|(exact congrArg (fun x=>Th.ext (Dk.tab (.bs x))) h4)|(exact congrArg (fun x=>Th.ext (Dk.tab (.bs x))) h1)|(exact congrArg _ h1))⟩
set_option maxRecDepth 100000 in
theorem rflush_lp (L:List (List UInt8)) (Q:List (Int×List UInt8)) (ru:Int) (ro:Bool) (hQ:WidQ Q) (hA:AtQ L.length Q) {W0:World} {G:Nat→Prop} (S0:Sy Td) (hS0:S0.P=Try.prog):LoopSound S0 Id' W0 G 40 (hdC (loopsC (bodyOf Try.f28)) 0) (lpG Id' 40 (hdC (loopsC (bodyOf Try.f28)) 0) 3 [(3,.c (.one (.v (.int .i64 ((0:Nat):Int)))))] [(0,.c (.one (.ptr 0 0)))] [⟨.bx [.obj 1,.obj 2,.v (.int .i64 ru),.v (.bool ro)],true⟩,⟨.us (.ext (.tab (.bs (flQ L Q 0)))),true⟩,⟨.us (.ext (.tab (.wq 89 Q))),true⟩] (.leaf (.exit 0) [] [⟨.bx [.obj 1,.obj 2,.v (.int .i64 ru),.v (.bool ro)],true⟩,⟨.us (.ext (.tab (.bs (flD L Q)))),true⟩,⟨.us (.ext (.tab (.wq 89 Q))),true⟩])):=by
 refine lp_sound (V:=fun k=>[(3,.c (.one (.v (.int .i64 (k:Int)))))]) (M:=(fun k=>[⟨.bx [.obj 1,.obj 2,.v (.int .i64 ru),.v (.bool ro)],true⟩,⟨.us (.ext (.tab (.bs (flQ L Q k)))),true⟩,⟨.us (.ext (.tab (.wq 89 Q))),true⟩]:Nat→Mem Td)) (N:=100000) (Ux:=fun k x=>match x with|.exit 0=>some ([],([⟨.bx [.obj 1,.obj 2,.v (.int .i64 ru),.v (.bool ro)],true⟩,⟨.us (.ext (.tab (.bs (flD L Q)))),true⟩,⟨.us (.ext (.tab (.wq 89 Q))),true⟩]:Mem Td))|_=>none) (X:=fun _ _=>True) (J:=fun k=>k≤Q.length) (fun k=>by kernel_rfl) (Nat.zero_le _) (fun k hk hJ f=>?_) (fun K hK k x U hk hU hX=>?_)
 ·rw [hS0]
  cases hT:decide ((k:Int)<(Q.length:Int)) with
  |false=>
   have hk1:¬ k<Q.length:=by rw [ltNI hT];simp
   exact rnd_xD (⟨Try.prog,[],[],dkHo,Id'.one,60⟩:Sy Td) rfl ((fun (W0:World) (G:Nat→Prop)=>SyOk.mk2 Try.mixed dkHo_ok (FnsR.nil) EqsOk.nil) W0 G) (rflush_x L Q ru ro _ _ k f hT (by show flQ L Q k=flQ L Q Q.length;rw [show k=Q.length by omega])) rfl trivial
  |true=>
   have hk1:k<Q.length:=by rw [ltNI hT]
   have:=hQ.2
   have hW:IntKind.i64.wrap ((k:Int)+1)=((k+1:Nat):Int):=by rw [IntWalk.i64_in _ (by omega)];omega
   exact rnd_nD (⟨Try.prog,[],[],dkHo,Id'.one,60⟩:Sy Td) rfl ((fun (W0:World) (G:Nat→Prop)=>SyOk.mk2 Try.mixed dkHo_ok (FnsR.nil) EqsOk.nil) W0 G) (rflush_n L Q ru ro _ _ k f hT hW hk1 (by rw [flQ_len];exact AtQ.at hA ⟨by omega,by omega⟩) (by simp only [flQ,Int.toNat_natCast])) rfl rfl (by omega) (by omega)
 ·revert hU
  match x with
  |.exit 0=>intro hU;simp only [Option.some.injEq] at hU;subst hU;exact hK
  |.normal=>intro hU;cases hU
  |.ret=>intro hU;cases hU
  |.exit (n+1)=>intro hU;cases hU
set_option maxRecDepth 100000 in
theorem rflush_w0 (L:List (List UInt8)) (Q:List (Int×List UInt8)) (ru:Int) (ro:Bool) (h0:rOff ro ru=true):∃ qs,wayO Id' ([⟨.bx [.obj 1,.obj 2,.v (.int .i64 ru),.v (.bool ro)],true⟩,⟨.us (.ext (.tab (.bs L))),true⟩,⟨.us (.ext (.tab (.wq 89 Q))),true⟩]:Mem Td).length [⟨.bx [.obj 1,.obj 3,.v (.int .i64 (rFu ru)),.v (.bool (rOff ro ru))],true⟩,⟨.us (.ext (.tab (.bs (rfL L Q ro ru)))),true⟩,⟨.dead,true⟩,⟨.us (.ext (.tab (.wq 89 (rfQ Q ro ru)))),true⟩] (svV (.int .i64 (rfE ro ru))) ((runFn (⟨Try.prog,[(43,ctrF Id' C_rstep hardD)],[],dkHo,Id'.one,60⟩:Sy Td) [(4,(lpG Id' 40 (hdC (loopsC (bodyOf Try.f28)) 0) 3 [(3,.c (.one (.v (.int .i64 ((0:Nat):Int)))))] [(0,.c (.one (.ptr 0 0)))] [⟨.bx [.obj 1,.obj 2,.v (.int .i64 (rFu ru)),.v (.bool (rOff ro ru))],true⟩,⟨.us (.ext (.tab (.bs (flQ L Q 0)))),true⟩,⟨.us (.ext (.tab (.wq 89 Q))),true⟩] (.leaf (.exit 0) [] [⟨.bx [.obj 1,.obj 2,.v (.int .i64 (rFu ru)),.v (.bool (rOff ro ru))],true⟩,⟨.us (.ext (.tab (.bs (flD L Q)))),true⟩,⟨.us (.ext (.tab (.wq 89 Q))),true⟩])))] Try.f28 [.one (.ptr 0 0)] [⟨.bx [.obj 1,.obj 2,.v (.int .i64 ru),.v (.bool ro)],true⟩,⟨.us (.ext (.tab (.bs L))),true⟩,⟨.us (.ext (.tab (.wq 89 Q))),true⟩]).al [true])=some qs∧∀ q∈qs,q:=
 ⟨[(!!rOff ro ru)=true,Value.int IntKind.i64 (rFu ru)=Value.int IntKind.i64 (rFu ru),Value.bool (rOff ro ru)=Value.bool (rOff ro ru),Th.ext (Dk.tab (TB.bs L))=Th.ext (Dk.tab (TB.bs (rfL L Q ro ru))),Th.ext (Dk.tab (TB.wq 89 Q))=Th.ext (Dk.tab (TB.wq 89 (rfQ Q ro ru))),Value.int IntKind.i64 (Int.ofNat 7)=Value.int IntKind.i64 (rfE ro ru)],by kernel_rfl,(by refine mcons ?_ (mcons ?_ (mcons ?_ (mcons ?_ (mcons ?_ (mcons ?_ mnil)))))<;>first|rfl|exact h0|trivial|(simp only [rfE,rfL,rfQ,h0,cond_true,cond_false];done)|(simp only [rfE,rfL,rfQ,h0,cond_true,cond_false];rfl)|(simp [rfE,rfL,rfQ,h0];done)|(exact nil_tabQ (by simp [rfQ,h0])))⟩
set_option maxRecDepth 100000 in
theorem rflush_w1 (L:List (List UInt8)) (Q:List (Int×List UInt8)) (ru:Int) (ro:Bool) (h0:rOff ro ru=false):∃ qs,wayO Id' ([⟨.bx [.obj 1,.obj 2,.v (.int .i64 ru),.v (.bool ro)],true⟩,⟨.us (.ext (.tab (.bs L))),true⟩,⟨.us (.ext (.tab (.wq 89 Q))),true⟩]:Mem Td).length [⟨.bx [.obj 1,.obj 3,.v (.int .i64 (rFu ru)),.v (.bool (rOff ro ru))],true⟩,⟨.us (.ext (.tab (.bs (rfL L Q ro ru)))),true⟩,⟨.dead,true⟩,⟨.us (.ext (.tab (.wq 89 (rfQ Q ro ru)))),true⟩] (svV (.int .i64 (rfE ro ru))) ((runFn (⟨Try.prog,[(43,ctrF Id' C_rstep hardD)],[],dkHo,Id'.one,60⟩:Sy Td) [(4,(lpG Id' 40 (hdC (loopsC (bodyOf Try.f28)) 0) 3 [(3,.c (.one (.v (.int .i64 ((0:Nat):Int)))))] [(0,.c (.one (.ptr 0 0)))] [⟨.bx [.obj 1,.obj 2,.v (.int .i64 (rFu ru)),.v (.bool (rOff ro ru))],true⟩,⟨.us (.ext (.tab (.bs (flQ L Q 0)))),true⟩,⟨.us (.ext (.tab (.wq 89 Q))),true⟩] (.leaf (.exit 0) [] [⟨.bx [.obj 1,.obj 2,.v (.int .i64 (rFu ru)),.v (.bool (rOff ro ru))],true⟩,⟨.us (.ext (.tab (.bs (flD L Q)))),true⟩,⟨.us (.ext (.tab (.wq 89 Q))),true⟩])))] Try.f28 [.one (.ptr 0 0)] [⟨.bx [.obj 1,.obj 2,.v (.int .i64 ru),.v (.bool ro)],true⟩,⟨.us (.ext (.tab (.bs L))),true⟩,⟨.us (.ext (.tab (.wq 89 Q))),true⟩]).al [false])=some qs∧∀ q∈qs,q:=
 ⟨[(!!rOff ro ru)=false,Value.int IntKind.i64 (rFu ru)=Value.int IntKind.i64 (rFu ru),Value.bool (rOff ro ru)=Value.bool (rOff ro ru),Th.ext (Dk.tab (TB.bs L))=Th.ext (Dk.tab (TB.bs L)),Th.ext (Dk.tab (TB.wq 89 Q))=Th.ext (Dk.tab (TB.wq 89 Q)),Value.int IntKind.i64 (Int.ofNat 0)=Value.int IntKind.i64 (Int.ofNat (0:Nat)),Value.int IntKind.i64 (rFu ru)=Value.int IntKind.i64 (rFu ru),Value.bool (rOff ro ru)=Value.bool (rOff ro ru),Th.ext (Dk.tab (TB.bs (flD L Q)))=Th.ext (Dk.tab (TB.bs (rfL L Q ro ru))),∀ (w:World),Id'.holds (Th.ext (Dk.tab (TB.wq (89:TypeId) (rfQ Q ro ru)))) w nilV∧∀ (j:Nat),¬Id'.foot (Th.ext (Dk.tab (TB.wq (89:TypeId) (rfQ Q ro ru)))) w nilV j,Value.int IntKind.i64 (Int.ofNat 0)=Value.int IntKind.i64 (rfE ro ru)],by kernel_rfl,(by refine mcons ?_ (mcons ?_ (mcons ?_ (mcons ?_ (mcons ?_ (mcons ?_ (mcons ?_ (mcons ?_ (mcons ?_ (mcons ?_ (mcons ?_ mnil))))))))))<;>first|rfl|exact h0|trivial|(simp only [rfE,rfL,rfQ,h0,cond_true,cond_false];done)|(simp only [rfE,rfL,rfQ,h0,cond_true,cond_false];rfl)|(simp [rfE,rfL,rfQ,h0];done)|(exact nil_tabQ (by simp [rfQ,h0])))⟩
def C_rflush:Ctr Td:=fun us sub=>match us,sub with
 |[.one (.ptr 0 0)],[⟨.bx [.obj 1,.obj 2,.v (.int .i64 ru),.v (.bool ro)],true⟩,⟨.us (.ext (.tab (.bs L))),true⟩,⟨.us (.ext (.tab (.wq 89 Q))),true⟩]=>some ([WidQ Q,AtQ L.length Q],svV (.int .i64 (rfE ro ru)),[⟨.bx [.obj 1,.obj 3,.v (.int .i64 (rFu ru)),.v (.bool (rOff ro ru))],true⟩,⟨.us (.ext (.tab (.bs (rfL L Q ro ru)))),true⟩,⟨.dead,true⟩,⟨.us (.ext (.tab (.wq 89 (rfQ Q ro ru)))),true⟩])
 |_,_=>none
set_option maxRecDepth 100000 in
theorem C_rflush_ok:CtrOk Try.prog Id' 28 C_rflush:=by
 intro us sub ps x sm h hp w e vs hM ha
 unfold C_rflush at h
 split at h
 ·rename_i ru ro L Q
  simp only [Option.some.injEq,Prod.mk.injEq] at h
  obtain ⟨rfl,rfl,rfl⟩:=h
  have hQ:WidQ Q:=hp _ (by simp)
  have hA:AtQ L.length Q:=hp _ (by simp)
  rcases Bool.eq_false_or_eq_true (rOff ro ru) with h0|h0
  ·exact ctr_way (I:=Id') (fun (W0:World) (G:Nat→Prop)=>SyOk.mk2 Try.mixed dkHo_ok (FnsR.cons (R_rstep) (FnsR.nil)) EqsOk.nil) rfl Try.func28 (by kernel_rfl) (fun _ _=>LpsOk.cons (by kernel_rfl) (rflush_lp L Q (rFu ru) (rOff ro ru) hQ hA _ rfl) (LpsOk.nil _)) (cs:=[true]) (by kernel_rfl) (rflush_w0 L Q ru ro h0) w e vs hM ha
  ·exact ctr_way (I:=Id') (fun (W0:World) (G:Nat→Prop)=>SyOk.mk2 Try.mixed dkHo_ok (FnsR.cons (R_rstep) (FnsR.nil)) EqsOk.nil) rfl Try.func28 (by kernel_rfl) (fun _ _=>LpsOk.cons (by kernel_rfl) (rflush_lp L Q (rFu ru) (rOff ro ru) hQ hA _ rfl) (LpsOk.nil _)) (cs:=[false]) (by kernel_rfl) (rflush_w1 L Q ru ro h0) w e vs hM ha
 ·cases h
theorem R_rflush:RowOk Try.prog Id' hardD 28 (ctrF Id' C_rflush hardD):=ctrF_ok Try.call28 C_rflush_ok
set_option maxRecDepth 100000 in
theorem rcrash_n (L:List (List UInt8)) (Q:List (Int×List UInt8)) (ru:Int) (ro:Bool) (ks:List Int) (tn:Int) (Lk Ln:List (List UInt8)) (k:Nat) (f:Nat→Value) (h0:decide ((k:Int)<(Q.length:Int))=true) (h1:IntKind.i64.wrap ((k:Int)+1)=((k+1:Nat):Int)) (h2:k<Q.length) (h3:0≤(Q.getD ((k:Int).toNat) (0,[])).1∧(Q.getD ((k:Int).toNat) (0,[])).1.toNat<Lk.length) (h4:0≤(bif (k:Int)==IntKind.i64.wrap (((TB.wq 89 Q).n:Int) - 1)&&decide (tn≥1)&&decide (tn≤127) then tn else bif decide ((k:Int)<(ks.length:Int))&&ks.getD ((k:Int).toNat) 0 != 0 then 128 else 0)∧(bif (k:Int)==IntKind.i64.wrap (((TB.wq 89 Q).n:Int) - 1)&&decide (tn≥1)&&decide (tn≤127) then tn else bif decide ((k:Int)<(ks.length:Int))&&ks.getD ((k:Int).toNat) 0 != 0 then 128 else 0)≤128) (h5:(Q.getD ((k:Int).toNat) (0,[])).2.length=128) (h6:(Lk.getD (Q.getD ((k:Int).toNat) (0,[])).1.toNat []).length=128) (h7:Lk.set (Q.getD ((k:Int).toNat) (0,[])).1.toNat (List.take ((bif (k:Int)==IntKind.i64.wrap (((TB.wq 89 Q).n:Int) - 1)&&decide (tn≥1)&&decide (tn≤127) then tn else bif decide ((k:Int)<(ks.length:Int))&&ks.getD ((k:Int).toNat) 0 != 0 then 128 else 0).toNat - Int.toNat 0) (List.drop (Int.toNat 0) (Q.getD ((k:Int).toNat) (0,[])).2)++List.take (((Lk.getD (Q.getD ((k:Int).toNat) (0,[])).1.toNat []).length:Int).toNat - (bif (k:Int)==IntKind.i64.wrap (((TB.wq 89 Q).n:Int) - 1)&&decide (tn≥1)&&decide (tn≤127) then tn else bif decide ((k:Int)<(ks.length:Int))&&ks.getD ((k:Int).toNat) 0 != 0 then 128 else 0).toNat) (List.drop (bif (k:Int)==IntKind.i64.wrap (((TB.wq 89 Q).n:Int) - 1)&&decide (tn≥1)&&decide (tn≤127) then tn else bif decide ((k:Int)<(ks.length:Int))&&ks.getD ((k:Int).toNat) 0 != 0 then 128 else 0).toNat (Lk.getD (Q.getD ((k:Int).toNat) (0,[])).1.toNat [])))=Ln):∃ qs,alN Id' 4 [(6,.c (.one (.v (.int .i64 ((k+1:Nat):Int)))))] [⟨.bx [.obj 2,.obj 3,.v (.int .i64 ru),.v (.bool ro)],true⟩,⟨.us (.ext (.nums ks)),false⟩,⟨.us (.ext (.tab (.bs Ln))),true⟩,⟨.us (.ext (.tab (.wq 89 Q))),true⟩] ((symC (⟨Try.prog,[(25,ctrF Id' C_rcopyS hardD)],[],dkHo,Id'.one,60⟩:Sy Td) [] 99 (hdC (loopsC (bodyOf Try.f32)) 0) ⟨[(6,.c (.one (.v (.int .i64 (k:Int)))))]++anyB' (writesC (hdC (loopsC (bodyOf Try.f32)) 0)) ([(0,.c (.one (.ptr 0 0))),(1,.c (.one (.obj 1))),(2,.c (.one (.v (.int .i64 tn))))]++tabV f 99),[⟨.bx [.obj 2,.obj 3,.v (.int .i64 ru),.v (.bool ro)],true⟩,⟨.us (.ext (.nums ks)),false⟩,⟨.us (.ext (.tab (.bs Lk))),true⟩,⟨.us (.ext (.tab (.wq 89 Q))),true⟩],0⟩).al [true])=some qs∧∀ q∈qs,q:=
 ⟨[decide ((↑k:Int)<(↑(TB.wq (89:TypeId) Q).n:Int))=true,(decide ((↑k:Int)<(↑ks.length:Int))&&true)=true→(0:Int)≤(↑k:Int)∧(↑k:Int).toNat<ks.length,(0:Int)≤(TB.wq (89:TypeId) Q).int (↑k:Int)∧((TB.wq (89:TypeId) Q).int (↑k:Int)).toNat<(TB.bs Lk).n,(0:Int)≤(↑k:Int)∧(↑k:Int).toNat<(TB.wq (89:TypeId) Q).n,(bif (↑k:Int)==IntKind.i64.wrap ((↑(TB.wq (89:TypeId) Q).n:Int) - (1:Int))&&decide (tn≥(1:Int))&&decide (tn≤(127:Int)) then tn else bif decide ((↑k:Int)<(↑ks.length:Int))&&ks.getD (↑k:Int).toNat (0:Int) != (0:Int) then (128:Int) else (0:Int)).toNat - Int.toNat (0:Int)≤(1000000:Nat),(0:Int)≤(0:Int)∧((0:Int)≤bif (↑k:Int)==IntKind.i64.wrap ((↑(TB.wq (89:TypeId) Q).n:Int) - (1:Int))&&decide (tn≥(1:Int))&&decide (tn≤(127:Int)) then tn else bif decide ((↑k:Int)<(↑ks.length:Int))&&ks.getD (↑k:Int).toNat (0:Int) != (0:Int) then (128:Int) else (0:Int))∧(bif (↑k:Int)==IntKind.i64.wrap ((↑(TB.wq (89:TypeId) Q).n:Int) - (1:Int))&&decide (tn≥(1:Int))&&decide (tn≤(127:Int)) then tn else bif decide ((↑k:Int)<(↑ks.length:Int))&&ks.getD (↑k:Int).toNat (0:Int) != (0:Int) then (128:Int) else (0:Int))≤(↑((TB.wq (89:TypeId) Q).byt (↑k:Int)).length:Int),(0:Int)≤(↑k:Int)∧(↑k:Int).toNat<(TB.wq (89:TypeId) Q).n,(0:Int)≤(TB.wq (89:TypeId) Q).int (↑k:Int)∧((TB.wq (89:TypeId) Q).int (↑k:Int)).toNat<(TB.bs Lk).n,(List.take ((bif (↑k:Int)==IntKind.i64.wrap ((↑(TB.wq (89:TypeId) Q).n:Int) - (1:Int))&&decide (tn≥(1:Int))&&decide (tn≤(127:Int)) then tn else bif decide ((↑k:Int)<(↑ks.length:Int))&&ks.getD (↑k:Int).toNat (0:Int) != (0:Int) then (128:Int) else (0:Int)).toNat - Int.toNat (0:Int)) (List.drop (Int.toNat (0:Int)) ((TB.wq (89:TypeId) Q).byt (↑k:Int)))).length+(List.take ((↑((TB.bs Lk).byt ((TB.wq (89:TypeId) Q).int (↑k:Int))).length:Int).toNat - (bif (↑k:Int)==IntKind.i64.wrap ((↑(TB.wq (89:TypeId) Q).n:Int) - (1:Int))&&decide (tn≥(1:Int))&&decide (tn≤(127:Int)) then tn else bif decide ((↑k:Int)<(↑ks.length:Int))&&ks.getD (↑k:Int).toNat (0:Int) != (0:Int) then (128:Int) else (0:Int)).toNat) (List.drop (bif (↑k:Int)==IntKind.i64.wrap ((↑(TB.wq (89:TypeId) Q).n:Int) - (1:Int))&&decide (tn≥(1:Int))&&decide (tn≤(127:Int)) then tn else bif decide ((↑k:Int)<(↑ks.length:Int))&&ks.getD (↑k:Int).toNat (0:Int) != (0:Int) then (128:Int) else (0:Int)).toNat ((TB.bs Lk).byt ((TB.wq (89:TypeId) Q).int (↑k:Int))))).length≤(1000000:Nat),((0:Int)≤bif (↑k:Int)==IntKind.i64.wrap ((↑(TB.wq (89:TypeId) Q).n:Int) - (1:Int))&&decide (tn≥(1:Int))&&decide (tn≤(127:Int)) then tn else bif decide ((↑k:Int)<(↑ks.length:Int))&&ks.getD (↑k:Int).toNat (0:Int) != (0:Int) then (128:Int) else (0:Int))∧(bif (↑k:Int)==IntKind.i64.wrap ((↑(TB.wq (89:TypeId) Q).n:Int) - (1:Int))&&decide (tn≥(1:Int))&&decide (tn≤(127:Int)) then tn else bif decide ((↑k:Int)<(↑ks.length:Int))&&ks.getD (↑k:Int).toNat (0:Int) != (0:Int) then (128:Int) else (0:Int))≤(↑((TB.bs Lk).byt ((TB.wq (89:TypeId) Q).int (↑k:Int))).length:Int)∧(↑((TB.bs Lk).byt ((TB.wq (89:TypeId) Q).int (↑k:Int))).length:Int)≤(↑((TB.bs Lk).byt ((TB.wq (89:TypeId) Q).int (↑k:Int))).length:Int),(0:Int)≤(↑k:Int)∧(↑k:Int).toNat<(TB.wq (89:TypeId) Q).n,Value.int IntKind.i64 ru=Value.int IntKind.i64 ru,Value.bool ro=Value.bool ro,Th.ext (Dk.nums ks)=Th.ext (Dk.nums ks),Th.ext (Dk.tab (TB.bs (List.set Lk ((TB.wq (89:TypeId) Q).int (↑k:Int)).toNat (List.take ((bif (↑k:Int)==IntKind.i64.wrap ((↑(TB.wq (89:TypeId) Q).n:Int) - (1:Int))&&decide (tn≥(1:Int))&&decide (tn≤(127:Int)) then tn else bif decide ((↑k:Int)<(↑ks.length:Int))&&ks.getD (↑k:Int).toNat (0:Int) != (0:Int) then (128:Int) else (0:Int)).toNat - Int.toNat (0:Int)) (List.drop (Int.toNat (0:Int)) ((TB.wq (89:TypeId) Q).byt (↑k:Int)))++List.take ((↑((TB.bs Lk).byt ((TB.wq (89:TypeId) Q).int (↑k:Int))).length:Int).toNat - (bif (↑k:Int)==IntKind.i64.wrap ((↑(TB.wq (89:TypeId) Q).n:Int) - (1:Int))&&decide (tn≥(1:Int))&&decide (tn≤(127:Int)) then tn else bif decide ((↑k:Int)<(↑ks.length:Int))&&ks.getD (↑k:Int).toNat (0:Int) != (0:Int) then (128:Int) else (0:Int)).toNat) (List.drop (bif (↑k:Int)==IntKind.i64.wrap ((↑(TB.wq (89:TypeId) Q).n:Int) - (1:Int))&&decide (tn≥(1:Int))&&decide (tn≤(127:Int)) then tn else bif decide ((↑k:Int)<(↑ks.length:Int))&&ks.getD (↑k:Int).toNat (0:Int) != (0:Int) then (128:Int) else (0:Int)).toNat ((TB.bs Lk).byt ((TB.wq (89:TypeId) Q).int (↑k:Int))))))))=Th.ext (Dk.tab (TB.bs Ln)),Th.ext (Dk.tab (TB.wq 89 Q))=Th.ext (Dk.tab (TB.wq 89 Q)),Value.int IntKind.i64 (IntKind.i64.wrap ((↑k:Int)+(1:Int)))=Value.int IntKind.i64 (↑(k+(1:Nat)):Int)],by kernel_rfl,(by refine mcons ?_ (mcons ?_ (mcons ?_ (mcons ?_ (mcons ?_ (mcons ?_ (mcons ?_ (mcons ?_ (mcons ?_ (mcons ?_ (mcons ?_ (mcons ?_ (mcons ?_ (mcons ?_ (mcons ?_ (mcons ?_ (mcons ?_ mnil))))))))))))))))<;>first|rfl|exact h0|exact h1|exact h2|exact h3|exact h4|exact h5|exact h6|exact h7|trivial|(exact ⟨by omega,by show (k:Int).toNat<Q.length;omega⟩)|(exact fun h=>⟨by omega,by simp only [Bool.and_true,decide_eq_true_eq] at h;show (k:Int).toNat<ks.length;omega⟩)|(show (bif (k:Int)==IntKind.i64.wrap (((TB.wq 89 Q).n:Int) - 1)&&decide (tn≥1)&&decide (tn≤127) then tn else bif decide ((k:Int)<(ks.length:Int))&&ks.getD ((k:Int).toNat) 0 != 0 then 128 else 0).toNat - 0≤1000000;omega)|(exact ⟨by decide,h4.1,by show (bif (k:Int)==IntKind.i64.wrap (((TB.wq 89 Q).n:Int) - 1)&&decide (tn≥1)&&decide (tn≤127) then tn else bif decide ((k:Int)<(ks.length:Int))&&ks.getD ((k:Int).toNat) 0 != 0 then 128 else 0)≤((Q.getD ((k:Int).toNat) (0,[])).2.length:Int);rw [h5];exact h4.2⟩)|(refine Nat.le_trans (Nat.add_le_add (List.length_take_le _ _) (List.length_take_le _ _)) ?_;show (bif (k:Int)==IntKind.i64.wrap (((TB.wq 89 Q).n:Int) - 1)&&decide (tn≥1)&&decide (tn≤127) then tn else bif decide ((k:Int)<(ks.length:Int))&&ks.getD ((k:Int).toNat) 0 != 0 then 128 else 0).toNat - 0+(((Lk.getD (Q.getD ((k:Int).toNat) (0,[])).1.toNat []).length:Int).toNat - (bif (k:Int)==IntKind.i64.wrap (((TB.wq 89 Q).n:Int) - 1)&&decide (tn≥1)&&decide (tn≤127) then tn else bif decide ((k:Int)<(ks.length:Int))&&ks.getD ((k:Int).toNat) 0 != 0 then 128 else 0).toNat)≤1000000;rw [h6];omega)|(exact ⟨h4.1,by show (bif (k:Int)==IntKind.i64.wrap (((TB.wq 89 Q).n:Int) - 1)&&decide (tn≥1)&&decide (tn≤127) then tn else bif decide ((k:Int)<(ks.length:Int))&&ks.getD ((k:Int).toNat) 0 != 0 then 128 else 0)≤((Lk.getD (Q.getD ((k:Int).toNat) (0,[])).1.toNat []).length:Int);rw [h6];exact h4.2,by show ((Lk.getD (Q.getD ((k:Int).toNat) (0,[])).1.toNat []).length:Int)≤((Lk.getD (Q.getD ((k:Int).toNat) (0,[])).1.toNat []).length:Int);omega⟩)|(exact congrArg (fun x=>Th.ext (Dk.tab (.bs x))) h7)|(exact congrArg (fun x=>Th.ext (Dk.tab (.bs x))) h1)|(exact congrArg _ h1))⟩
set_option maxRecDepth 100000 in
theorem rcrash_x (L:List (List UInt8)) (Q:List (Int×List UInt8)) (ru:Int) (ro:Bool) (ks:List Int) (tn:Int) (Lk Ln:List (List UInt8)) (k:Nat) (f:Nat→Value) (h0:decide ((k:Int)<(Q.length:Int))=false) (h1:Lk=Ln):∃ qs,alX Id' 4 0 [] [⟨.bx [.obj 2,.obj 3,.v (.int .i64 ru),.v (.bool ro)],true⟩,⟨.us (.ext (.nums ks)),false⟩,⟨.us (.ext (.tab (.bs Ln))),true⟩,⟨.us (.ext (.tab (.wq 89 Q))),true⟩] ((symC (⟨Try.prog,[(25,ctrF Id' C_rcopyS hardD)],[],dkHo,Id'.one,60⟩:Sy Td) [] 99 (hdC (loopsC (bodyOf Try.f32)) 0) ⟨[(6,.c (.one (.v (.int .i64 (k:Int)))))]++anyB' (writesC (hdC (loopsC (bodyOf Try.f32)) 0)) ([(0,.c (.one (.ptr 0 0))),(1,.c (.one (.obj 1))),(2,.c (.one (.v (.int .i64 tn))))]++tabV f 99),[⟨.bx [.obj 2,.obj 3,.v (.int .i64 ru),.v (.bool ro)],true⟩,⟨.us (.ext (.nums ks)),false⟩,⟨.us (.ext (.tab (.bs Lk))),true⟩,⟨.us (.ext (.tab (.wq 89 Q))),true⟩],0⟩).al [false])=some qs∧∀ q∈qs,q:=
 ⟨[decide ((↑k:Int)<(↑(TB.wq (89:TypeId) Q).n:Int))=false,Value.int IntKind.i64 ru=Value.int IntKind.i64 ru,Value.bool ro=Value.bool ro,Th.ext (Dk.nums ks)=Th.ext (Dk.nums ks),Th.ext (Dk.tab (TB.bs Lk))=Th.ext (Dk.tab (TB.bs Ln)),Th.ext (Dk.tab (TB.wq 89 Q))=Th.ext (Dk.tab (TB.wq 89 Q))],by kernel_rfl,(by refine mcons ?_ (mcons ?_ (mcons ?_ (mcons ?_ (mcons ?_ (mcons ?_ mnil)))))<;>first|rfl|exact h0|exact h1|trivial|(exact ⟨by omega,by show (k:Int).toNat<Q.length;omega⟩)|(exact fun h=>⟨by omega,by simp only [Bool.and_true,decide_eq_true_eq] at h;show (k:Int).toNat<ks.length;omega⟩)|(show (bif (k:Int)==IntKind.i64.wrap (((TB.wq 89 Q).n:Int) - 1)&&decide (tn≥1)&&decide (tn≤127) then tn else bif decide ((k:Int)<(ks.length:Int))&&ks.getD ((k:Int).toNat) 0 != 0 then 128 else 0).toNat - 0≤1000000;omega)|(exact ⟨by decide,h4.1,by show (bif (k:Int)==IntKind.i64.wrap (((TB.wq 89 Q).n:Int) - 1)&&decide (tn≥1)&&decide (tn≤127) then tn else bif decide ((k:Int)<(ks.length:Int))&&ks.getD ((k:Int).toNat) 0 != 0 then 128 else 0)≤((Q.getD ((k:Int).toNat) (0,[])).2.length:Int);rw [h5];exact h4.2⟩)|(refine Nat.le_trans (Nat.add_le_add (List.length_take_le _ _) (List.length_take_le _ _)) ?_;show (bif (k:Int)==IntKind.i64.wrap (((TB.wq 89 Q).n:Int) - 1)&&decide (tn≥1)&&decide (tn≤127) then tn else bif decide ((k:Int)<(ks.length:Int))&&ks.getD ((k:Int).toNat) 0 != 0 then 128 else 0).toNat - 0+(((Lk.getD (Q.getD ((k:Int).toNat) (0,[])).1.toNat []).length:Int).toNat - (bif (k:Int)==IntKind.i64.wrap (((TB.wq 89 Q).n:Int) - 1)&&decide (tn≥1)&&decide (tn≤127) then tn else bif decide ((k:Int)<(ks.length:Int))&&ks.getD ((k:Int).toNat) 0 != 0 then 128 else 0).toNat)≤1000000;rw [h6];omega)|(exact ⟨h4.1,by show (bif (k:Int)==IntKind.i64.wrap (((TB.wq 89 Q).n:Int) - 1)&&decide (tn≥1)&&decide (tn≤127) then tn else bif decide ((k:Int)<(ks.length:Int))&&ks.getD ((k:Int).toNat) 0 != 0 then 128 else 0)≤((Lk.getD (Q.getD ((k:Int).toNat) (0,[])).1.toNat []).length:Int);rw [h6];exact h4.2,by show ((Lk.getD (Q.getD ((k:Int).toNat) (0,[])).1.toNat []).length:Int)≤((Lk.getD (Q.getD ((k:Int).toNat) (0,[])).1.toNat []).length:Int);omega⟩)|(exact congrArg (fun x=>Th.ext (Dk.tab (.bs x))) h7)|(exact congrArg (fun x=>Th.ext (Dk.tab (.bs x))) h1)|(exact congrArg _ h1))⟩
theorem rk_eq (q k tn:Int) (ks:List Int):(bif k==IntKind.i64.wrap (q - 1)&&decide (tn≥1)&&decide (tn≤127) then tn else bif decide (k<(ks.length:Int))&&ks.getD k.toNat 0 != 0 then 128 else 0)=kpI q k tn ks:=by
 unfold kpI
 rw [show decide (tn≥1)=decide (tn>0) from decide_eq_decide.2 (by omega),show decide (tn≤127)=decide (tn<128) from decide_eq_decide.2 (by omega)]
theorem crQ_wid {L:List (List UInt8)} {Q:List (Int×List UInt8)} {ks:List Int} {tn:Int} (hL:WidL L) (hQ:WidQ Q) (hA:AtQ L.length Q):∀ k,k≤Q.length→WidL (crQ L Q ks tn k)
 |0,_=>hL
 |k+1,hk=>by
  intro l hl
  simp only [crQ] at hl
  rcases List.mem_or_eq_of_mem_set hl with h|h
  ·exact crQ_wid hL hQ hA k (by omega) l h
  ·have h1:(Q.getD k (0,[])).2.length=128:=WidQ.at hQ (k:=(k:Int)) ⟨by omega,by omega⟩
   have h2:=AtQ.at hA (k:=(k:Int)) ⟨by omega,by omega⟩
   rw [Int.toNat_natCast] at h2
   have h3:((crQ L Q ks tn k).getD (Q.getD k (0,[])).1.toNat []).length=128:=WidL.at (crQ_wid hL hQ hA k (by omega)) (k:=(Q.getD k (0,[])).1) ⟨h2.1,by rw [crQ_len];exact h2.2⟩
   have h4:=kpI_in (Q.length:Int) (k:Int) tn ks
   have h5:crN Q ks tn k≤128:=by unfold crN;omega
   rw [h,List.length_append,List.length_take,List.length_drop,h1,h3]
   omega
theorem rcr_succ {L:List (List UInt8)} {Q:List (Int×List UInt8)} {ks:List Int} {tn:Int} {k:Nat} (h6:((crQ L Q ks tn k).getD (Q.getD ((k:Int).toNat) (0,[])).1.toNat []).length=128):(crQ L Q ks tn k).set (Q.getD ((k:Int).toNat) (0,[])).1.toNat (List.take ((kpI (Q.length:Int) (k:Int) tn ks).toNat - Int.toNat 0) (List.drop (Int.toNat 0) (Q.getD ((k:Int).toNat) (0,[])).2)++List.take ((((crQ L Q ks tn k).getD (Q.getD ((k:Int).toNat) (0,[])).1.toNat []).length:Int).toNat - (kpI (Q.length:Int) (k:Int) tn ks).toNat) (List.drop (kpI (Q.length:Int) (k:Int) tn ks).toNat ((crQ L Q ks tn k).getD (Q.getD ((k:Int).toNat) (0,[])).1.toNat [])))=crQ L Q ks tn (k+1):=by
 rw [List.take_of_length_le (l:=List.drop (kpI (Q.length:Int) (k:Int) tn ks).toNat _) (by rw [List.length_drop];omega)]
 simp only [Int.toNat_zero,Nat.sub_zero,List.drop_zero]
 rfl
set_option maxRecDepth 100000 in
theorem rcrash_lp (L:List (List UInt8)) (Q:List (Int×List UInt8)) (ru:Int) (ro:Bool) (ks:List Int) (tn:Int) (hL:WidL L) (hQ:WidQ Q) (hA:AtQ L.length Q) {W0:World} {G:Nat→Prop} (S0:Sy Td) (hS0:S0.P=Try.prog):LoopSound S0 Id' W0 G 99 (hdC (loopsC (bodyOf Try.f32)) 0) (lpG Id' 99 (hdC (loopsC (bodyOf Try.f32)) 0) 4 [(6,.c (.one (.v (.int .i64 ((0:Nat):Int)))))] [(0,.c (.one (.ptr 0 0))),(1,.c (.one (.obj 1))),(2,.c (.one (.v (.int .i64 tn))))] [⟨.bx [.obj 2,.obj 3,.v (.int .i64 ru),.v (.bool ro)],true⟩,⟨.us (.ext (.nums ks)),false⟩,⟨.us (.ext (.tab (.bs (crQ L Q ks tn 0)))),true⟩,⟨.us (.ext (.tab (.wq 89 Q))),true⟩] (.leaf (.exit 0) [] [⟨.bx [.obj 2,.obj 3,.v (.int .i64 ru),.v (.bool ro)],true⟩,⟨.us (.ext (.nums ks)),false⟩,⟨.us (.ext (.tab (.bs (crD L Q ks tn)))),true⟩,⟨.us (.ext (.tab (.wq 89 Q))),true⟩])):=by
 refine lp_sound (V:=fun k=>[(6,.c (.one (.v (.int .i64 (k:Int)))))]) (M:=(fun k=>[⟨.bx [.obj 2,.obj 3,.v (.int .i64 ru),.v (.bool ro)],true⟩,⟨.us (.ext (.nums ks)),false⟩,⟨.us (.ext (.tab (.bs (crQ L Q ks tn k)))),true⟩,⟨.us (.ext (.tab (.wq 89 Q))),true⟩]:Nat→Mem Td)) (N:=100000) (Ux:=fun k x=>match x with|.exit 0=>some ([],([⟨.bx [.obj 2,.obj 3,.v (.int .i64 ru),.v (.bool ro)],true⟩,⟨.us (.ext (.nums ks)),false⟩,⟨.us (.ext (.tab (.bs (crD L Q ks tn)))),true⟩,⟨.us (.ext (.tab (.wq 89 Q))),true⟩]:Mem Td))|_=>none) (X:=fun _ _=>True) (J:=fun k=>k≤Q.length) (fun k=>by kernel_rfl) (Nat.zero_le _) (fun k hk hJ f=>?_) (fun K hK k x U hk hU hX=>?_)
 ·rw [hS0]
  cases hT:decide ((k:Int)<(Q.length:Int)) with
  |false=>
   have hk1:¬ k<Q.length:=by rw [ltNI hT];simp
   exact rnd_xD (⟨Try.prog,[(25,ctrF Id' C_rcopyS hardD)],[],dkHo,Id'.one,60⟩:Sy Td) rfl ((fun (W0:World) (G:Nat→Prop)=>SyOk.mk2 Try.mixed dkHo_ok (FnsR.cons (R_rcopyS) (FnsR.nil)) EqsOk.nil) W0 G) (rcrash_x L Q ru ro ks tn _ _ k f hT (by show crQ L Q ks tn k=crQ L Q ks tn Q.length;rw [show k=Q.length by omega])) rfl trivial
  |true=>
   have hk1:k<Q.length:=by rw [ltNI hT]
   have:=hQ.2
   have hW:IntKind.i64.wrap ((k:Int)+1)=((k+1:Nat):Int):=by rw [IntWalk.i64_in _ (by omega)];omega
   have hat:=AtQ.at hA (k:=(k:Int)) ⟨by omega,by omega⟩
   have hwas:((crQ L Q ks tn k).getD (Q.getD ((k:Int).toNat) (0,[])).1.toNat []).length=128:=WidL.at (crQ_wid hL hQ hA k hJ) ⟨hat.1,by rw [crQ_len];exact hat.2⟩
   exact rnd_nD (⟨Try.prog,[(25,ctrF Id' C_rcopyS hardD)],[],dkHo,Id'.one,60⟩:Sy Td) rfl ((fun (W0:World) (G:Nat→Prop)=>SyOk.mk2 Try.mixed dkHo_ok (FnsR.cons (R_rcopyS) (FnsR.nil)) EqsOk.nil) W0 G) (rcrash_n L Q ru ro ks tn _ _ k f hT hW hk1 (by rw [crQ_len];exact hat) (by show 0≤(bif (k:Int)==IntKind.i64.wrap ((Q.length:Int) - 1)&&decide (tn≥1)&&decide (tn≤127) then tn else bif decide ((k:Int)<(ks.length:Int))&&ks.getD ((k:Int).toNat) 0 != 0 then 128 else 0)∧(bif (k:Int)==IntKind.i64.wrap ((Q.length:Int) - 1)&&decide (tn≥1)&&decide (tn≤127) then tn else bif decide ((k:Int)<(ks.length:Int))&&ks.getD ((k:Int).toNat) 0 != 0 then 128 else 0)≤128;rw [rk_eq];exact kpI_in _ _ _ _) (WidQ.at hQ ⟨by omega,by omega⟩) hwas ((congrArg (fun N:Int=>(crQ L Q ks tn k).set (Q.getD ((k:Int).toNat) (0,[])).1.toNat (List.take (N.toNat - Int.toNat 0) (List.drop (Int.toNat 0) (Q.getD ((k:Int).toNat) (0,[])).2)++List.take ((((crQ L Q ks tn k).getD (Q.getD ((k:Int).toNat) (0,[])).1.toNat []).length:Int).toNat - N.toNat) (List.drop N.toNat ((crQ L Q ks tn k).getD (Q.getD ((k:Int).toNat) (0,[])).1.toNat [])))) (rk_eq (Q.length:Int) (k:Int) tn ks)).trans (rcr_succ hwas))) rfl rfl (by omega) (by omega)
 ·revert hU
  match x with
  |.exit 0=>intro hU;simp only [Option.some.injEq] at hU;subst hU;exact hK
  |.normal=>intro hU;cases hU
  |.ret=>intro hU;cases hU
  |.exit (n+1)=>intro hU;cases hU
set_option maxRecDepth 100000 in
theorem rcrash_w0 (L:List (List UInt8)) (Q:List (Int×List UInt8)) (ru:Int) (ro:Bool) (ks:List Int) (tn:Int) :∃ qs,wayO Id' ([⟨.bx [.obj 2,.obj 3,.v (.int .i64 ru),.v (.bool ro)],true⟩,⟨.us (.ext (.nums ks)),false⟩,⟨.us (.ext (.tab (.bs L))),true⟩,⟨.us (.ext (.tab (.wq 89 Q))),true⟩]:Mem Td).length [⟨.bx [.obj 2,.obj 4,.v (.int .i64 (-1)),.v (.bool false)],true⟩,⟨.us (.ext (.nums ks)),false⟩,⟨.us (.ext (.tab (.bs (crD L Q ks tn)))),true⟩,⟨.dead,true⟩,⟨.us (.ext (.tab (.wq 89 []))),true⟩] (.tup []) ((runFn (⟨Try.prog,[(25,ctrF Id' C_rcopyS hardD)],[],dkHo,Id'.one,60⟩:Sy Td) [(1,(lpG Id' 99 (hdC (loopsC (bodyOf Try.f32)) 0) 4 [(6,.c (.one (.v (.int .i64 ((0:Nat):Int)))))] [(0,.c (.one (.ptr 0 0))),(1,.c (.one (.obj 1))),(2,.c (.one (.v (.int .i64 tn))))] [⟨.bx [.obj 2,.obj 3,.v (.int .i64 ru),.v (.bool ro)],true⟩,⟨.us (.ext (.nums ks)),false⟩,⟨.us (.ext (.tab (.bs (crQ L Q ks tn 0)))),true⟩,⟨.us (.ext (.tab (.wq 89 Q))),true⟩] (.leaf (.exit 0) [] [⟨.bx [.obj 2,.obj 3,.v (.int .i64 ru),.v (.bool ro)],true⟩,⟨.us (.ext (.nums ks)),false⟩,⟨.us (.ext (.tab (.bs (crD L Q ks tn)))),true⟩,⟨.us (.ext (.tab (.wq 89 Q))),true⟩])))] Try.f32 [.one (.ptr 0 0),.one (.obj 1),.one (.v (.int .i64 tn))] [⟨.bx [.obj 2,.obj 3,.v (.int .i64 ru),.v (.bool ro)],true⟩,⟨.us (.ext (.nums ks)),false⟩,⟨.us (.ext (.tab (.bs L))),true⟩,⟨.us (.ext (.tab (.wq 89 Q))),true⟩]).al [])=some qs∧∀ q∈qs,q:=
 ⟨[Value.int IntKind.i64 tn=Value.int IntKind.i64 tn,Value.int IntKind.i64 ru=Value.int IntKind.i64 ru,Value.bool ro=Value.bool ro,Th.ext (Dk.nums ks)=Th.ext (Dk.nums ks),Th.ext (Dk.tab (TB.bs L))=Th.ext (Dk.tab (TB.bs L)),Th.ext (Dk.tab (TB.wq 89 Q))=Th.ext (Dk.tab (TB.wq 89 Q)),Value.int IntKind.i64 (Int.ofNat 0)=Value.int IntKind.i64 (Int.ofNat (0:Nat)),Value.int IntKind.i64 (Int.negSucc 0)=Value.int IntKind.i64 (Int.negSucc 0),Value.bool false=Value.bool false,Th.ext (Dk.nums ks)=Th.ext (Dk.nums ks),Th.ext (Dk.tab (TB.bs (Nat.brecOn.go Q.length (crQ._f L Q ks tn)).1))=Th.ext (Dk.tab (TB.bs (Nat.brecOn.go Q.length (crQ._f L Q ks tn)).1)),∀ (w:World),Id'.holds (Th.ext (Dk.tab (TB.wq (89:TypeId) []))) w nilV∧∀ (j:Nat),¬Id'.foot (Th.ext (Dk.tab (TB.wq (89:TypeId) []))) w nilV j],by kernel_rfl,(by refine mcons ?_ (mcons ?_ (mcons ?_ (mcons ?_ (mcons ?_ (mcons ?_ (mcons ?_ (mcons ?_ (mcons ?_ (mcons ?_ (mcons ?_ (mcons ?_ mnil)))))))))))<;>first|rfl|trivial|(exact nil_tabQ rfl))⟩
def C_rcrash:Ctr Td:=fun us sub=>match us,sub with
 |[.one (.ptr 0 0),.one (.obj 1),.one (.v (.int .i64 tn))],[⟨.bx [.obj 2,.obj 3,.v (.int .i64 ru),.v (.bool ro)],true⟩,⟨.us (.ext (.nums ks)),false⟩,⟨.us (.ext (.tab (.bs L))),true⟩,⟨.us (.ext (.tab (.wq 89 Q))),true⟩]=>some ([WidL L,WidQ Q,AtQ L.length Q],.tup [],[⟨.bx [.obj 2,.obj 4,.v (.int .i64 (-1)),.v (.bool false)],true⟩,⟨.us (.ext (.nums ks)),false⟩,⟨.us (.ext (.tab (.bs (crD L Q ks tn)))),true⟩,⟨.dead,true⟩,⟨.us (.ext (.tab (.wq 89 []))),true⟩])
 |_,_=>none
set_option maxRecDepth 100000 in
theorem C_rcrash_ok:CtrOk Try.prog Id' 32 C_rcrash:=by
 intro us sub ps x sm h hp w e vs hM ha
 unfold C_rcrash at h
 split at h
 ·rename_i tn ru ro ks L Q
  simp only [Option.some.injEq,Prod.mk.injEq] at h
  obtain ⟨rfl,rfl,rfl⟩:=h
  have hL:WidL L:=hp _ (by simp)
  have hQ:WidQ Q:=hp _ (by simp)
  have hA:AtQ L.length Q:=hp _ (by simp)
  exact ctr_way (I:=Id') (fun (W0:World) (G:Nat→Prop)=>SyOk.mk2 Try.mixed dkHo_ok (FnsR.cons (R_rcopyS) (FnsR.nil)) EqsOk.nil) rfl Try.func32 (by kernel_rfl) (fun _ _=>LpsOk.cons (by kernel_rfl) (rcrash_lp L Q ru ro ks tn hL hQ hA _ rfl) (LpsOk.nil _)) (cs:=[]) (by kernel_rfl) (rcrash_w0 L Q ru ro ks tn ) w e vs hM ha
 ·cases h
set_option maxRecDepth 100000 in
theorem rnew_n (n:Int) (Lk Ln:List (List UInt8)) (k:Nat) (f:Nat→Value) (h0:decide ((k:Int)<n)=true) (h1:IntKind.i64.wrap ((k:Int)+1)=((k+1:Nat):Int)) (h2:Lk.length+1≤100000) (h3:Lk++[List.replicate 128 0]=Ln):∃ qs,alN Id' 1 [(5,.c (.one (.v (.int .i64 ((k+1:Nat):Int)))))] [⟨.blk [.obj 1,.v (.slice none 0 0),.v (.int .i64 (-1)),.v (.bool false)],true⟩,⟨.us (.ext (.tab (.bs Ln))),true⟩] ((symC (⟨Try.prog,[],[],dkHo,Id'.one,60⟩:Sy Td) [] 32 (hdC (loopsC (bodyOf Try.f24)) 0) ⟨[(5,.c (.one (.v (.int .i64 (k:Int)))))]++anyB' (writesC (hdC (loopsC (bodyOf Try.f24)) 0)) ([(0,.c (.one (.v (.int .i64 n)))),(4,.c (.one (.ptr 0 0)))]++tabV f 32),[⟨.blk [.obj 1,.v (.slice none 0 0),.v (.int .i64 (-1)),.v (.bool false)],true⟩,⟨.us (.ext (.tab (.bs Lk))),true⟩],0⟩).al [true])=some qs∧∀ q∈qs,q:=
 ⟨[decide ((↑k:Int)<n)=true,(TB.bs Lk).n+(TB.bs [List.replicate 128 (0:UInt8)]).n≤(100000:Nat),Value.slice none 0 0=Value.slice none 0 0,Value.int IntKind.i64 (Int.negSucc 0)=Value.int IntKind.i64 (Int.negSucc 0),Value.bool false=Value.bool false,Th.ext (Dk.tab (TB.bs (Lk++[List.replicate 128 (0:UInt8)])))=Th.ext (Dk.tab (TB.bs Ln)),Value.int IntKind.i64 (IntKind.i64.wrap ((↑k:Int)+(1:Int)))=Value.int IntKind.i64 (↑(k+(1:Nat)):Int)],by kernel_rfl,(by refine mcons ?_ (mcons ?_ (mcons ?_ (mcons ?_ (mcons ?_ (mcons ?_ (mcons ?_ mnil))))))<;>first|rfl|exact h0|exact h1|exact h2|exact h3|trivial|(exact (by omega))|(exact congrArg (fun x=>Th.ext (Dk.tab (.bs x))) h3)|(exact congrArg (fun x=>Th.ext (Dk.tab (.bs x))) h1)|(exact congrArg _ h1))⟩
set_option maxRecDepth 100000 in
theorem rnew_x (n:Int) (Lk Ln:List (List UInt8)) (k:Nat) (f:Nat→Value) (h0:decide ((k:Int)<n)=false) (h1:Lk=Ln):∃ qs,alX Id' 1 0 [] [⟨.blk [.obj 1,.v (.slice none 0 0),.v (.int .i64 (-1)),.v (.bool false)],true⟩,⟨.us (.ext (.tab (.bs Ln))),true⟩] ((symC (⟨Try.prog,[],[],dkHo,Id'.one,60⟩:Sy Td) [] 32 (hdC (loopsC (bodyOf Try.f24)) 0) ⟨[(5,.c (.one (.v (.int .i64 (k:Int)))))]++anyB' (writesC (hdC (loopsC (bodyOf Try.f24)) 0)) ([(0,.c (.one (.v (.int .i64 n)))),(4,.c (.one (.ptr 0 0)))]++tabV f 32),[⟨.blk [.obj 1,.v (.slice none 0 0),.v (.int .i64 (-1)),.v (.bool false)],true⟩,⟨.us (.ext (.tab (.bs Lk))),true⟩],0⟩).al [false])=some qs∧∀ q∈qs,q:=
 ⟨[decide ((↑k:Int)<n)=false,Value.slice none 0 0=Value.slice none 0 0,Value.int IntKind.i64 (Int.negSucc 0)=Value.int IntKind.i64 (Int.negSucc 0),Value.bool false=Value.bool false,Th.ext (Dk.tab (TB.bs Lk))=Th.ext (Dk.tab (TB.bs Ln))],by kernel_rfl,(by refine mcons ?_ (mcons ?_ (mcons ?_ (mcons ?_ (mcons ?_ mnil))))<;>first|rfl|exact h0|exact h1|trivial|(exact (by omega))|(exact congrArg (fun x=>Th.ext (Dk.tab (.bs x))) h3)|(exact congrArg (fun x=>Th.ext (Dk.tab (.bs x))) h1)|(exact congrArg _ h1))⟩
set_option maxRecDepth 100000 in
theorem rnew_lp (n:Int) (hn:0≤n∧n≤4096) {W0:World} {G:Nat→Prop} (S0:Sy Td) (hS0:S0.P=Try.prog):LoopSound S0 Id' W0 G 32 (hdC (loopsC (bodyOf Try.f24)) 0) (lpG Id' 32 (hdC (loopsC (bodyOf Try.f24)) 0) 1 [(5,.c (.one (.v (.int .i64 ((0:Nat):Int)))))] [(0,.c (.one (.v (.int .i64 n)))),(4,.c (.one (.ptr 0 0)))] [⟨.blk [.obj 1,.v (.slice none 0 0),.v (.int .i64 (-1)),.v (.bool false)],true⟩,⟨.us (.ext (.tab (.bs (List.replicate 0 sec0)))),true⟩] (.leaf (.exit 0) [] [⟨.blk [.obj 1,.v (.slice none 0 0),.v (.int .i64 (-1)),.v (.bool false)],true⟩,⟨.us (.ext (.tab (.bs (List.replicate n.toNat sec0)))),true⟩])):=by
 refine lp_sound (V:=fun k=>[(5,.c (.one (.v (.int .i64 (k:Int)))))]) (M:=(fun k=>[⟨.blk [.obj 1,.v (.slice none 0 0),.v (.int .i64 (-1)),.v (.bool false)],true⟩,⟨.us (.ext (.tab (.bs (List.replicate k sec0)))),true⟩]:Nat→Mem Td)) (N:=100000) (Ux:=fun k x=>match x with|.exit 0=>some ([],([⟨.blk [.obj 1,.v (.slice none 0 0),.v (.int .i64 (-1)),.v (.bool false)],true⟩,⟨.us (.ext (.tab (.bs (List.replicate n.toNat sec0)))),true⟩]:Mem Td))|_=>none) (X:=fun _ _=>True) (J:=fun k=>k≤n.toNat) (fun k=>by kernel_rfl) (Nat.zero_le _) (fun k hk hJ f=>?_) (fun K hK k x U hk hU hX=>?_)
 ·rw [hS0]
  cases hT:decide ((k:Int)<n) with
  |false=>
   have hk1:n.toNat≤k:=by have:=of_decide_eq_false hT;omega
   exact rnd_xD (⟨Try.prog,[],[],dkHo,Id'.one,60⟩:Sy Td) rfl ((fun (W0:World) (G:Nat→Prop)=>SyOk.mk2 Try.mixed dkHo_ok (FnsR.nil) EqsOk.nil) W0 G) (rnew_x n _ _ k f hT (by rw [show k=n.toNat by omega])) rfl trivial
  |true=>
   have hk1:(k:Int)<n:=of_decide_eq_true hT
   have hW:IntKind.i64.wrap ((k:Int)+1)=((k+1:Nat):Int):=by rw [IntWalk.i64_in _ (by omega)];omega
   exact rnd_nD (⟨Try.prog,[],[],dkHo,Id'.one,60⟩:Sy Td) rfl ((fun (W0:World) (G:Nat→Prop)=>SyOk.mk2 Try.mixed dkHo_ok (FnsR.nil) EqsOk.nil) W0 G) (rnew_n n _ _ k f hT hW (by rw [List.length_replicate];omega) (by show List.replicate k sec0++[sec0]=List.replicate (k+1) sec0;exact List.replicate_succ'.symm)) rfl rfl (by omega) (by omega)
 ·revert hU
  match x with
  |.exit 0=>intro hU;simp only [Option.some.injEq] at hU;subst hU;exact hK
  |.normal=>intro hU;cases hU
  |.ret=>intro hU;cases hU
  |.exit (n+1)=>intro hU;cases hU
def C_rnewB:Ctr Td:=fun us sub=>match us,sub with
 |[.one (.v (.int .i64 n))],([]:Mem Td)=>some ([(decide (n<1)||decide (n>4096))=true],.tup [.one (.v (.pointer none)),.one (.kI .i64 2)],[])
 |_,_=>none
set_option maxRecDepth 100000 in
theorem rnewG_w0 (n:Int) (h0:(decide (n<1)||decide (n>4096))=false):∃ qs,wayO Id' (([]:Mem Td):Mem Td).length [⟨.bx [.obj 1,.obj 2,.v (.int .i64 (-1)),.v (.bool false)],true⟩,⟨.us (.ext (.tab (.bs (List.replicate n.toNat sec0)))),true⟩,⟨.us (.ext (.tab (.wq 89 []))),true⟩] (.tup [.one (.ptr 0 0),.one (.kI .i64 0)]) ((runFn (⟨Try.prog,[],[],dkHo,Id'.one,60⟩:Sy Td) [(5,(lpG Id' 32 (hdC (loopsC (bodyOf Try.f24)) 0) 1 [(5,.c (.one (.v (.int .i64 ((0:Nat):Int)))))] [(0,.c (.one (.v (.int .i64 n)))),(4,.c (.one (.ptr 0 0)))] [⟨.blk [.obj 1,.v (.slice none 0 0),.v (.int .i64 (-1)),.v (.bool false)],true⟩,⟨.us (.ext (.tab (.bs (List.replicate 0 sec0)))),true⟩] (.leaf (.exit 0) [] [⟨.blk [.obj 1,.v (.slice none 0 0),.v (.int .i64 (-1)),.v (.bool false)],true⟩,⟨.us (.ext (.tab (.bs (List.replicate n.toNat sec0)))),true⟩])))] Try.f24 [.one (.v (.int .i64 n))] ([]:Mem Td)).al [false])=some qs∧∀ q∈qs,q:=
 ⟨[(decide (n<(1:Int))||decide (n>(4096:Int)))=false,Value.int IntKind.i64 n=Value.int IntKind.i64 n,Value.slice none 0 0=Value.slice none 0 0,Value.int IntKind.i64 (Int.negSucc 0)=Value.int IntKind.i64 (Int.negSucc 0),Value.bool false=Value.bool false,∀ (w:World),Id'.holds (Th.ext (Dk.tab (TB.bs (List.replicate (0:Nat) sec0)))) w nilV∧∀ (j:Nat),¬Id'.foot (Th.ext (Dk.tab (TB.bs (List.replicate (0:Nat) sec0)))) w nilV j,Value.int IntKind.i64 (Int.ofNat 0)=Value.int IntKind.i64 (Int.ofNat (0:Nat)),Value.int IntKind.i64 (Int.negSucc 0)=Value.int IntKind.i64 (Int.negSucc 0),Value.bool false=Value.bool false,Th.ext (Dk.tab (TB.bs (List.replicate n.toNat sec0)))=Th.ext (Dk.tab (TB.bs (List.replicate n.toNat sec0))),∀ (w:World),Id'.holds (Th.ext (Dk.tab (TB.wq (89:TypeId) []))) w nilV∧∀ (j:Nat),¬Id'.foot (Th.ext (Dk.tab (TB.wq (89:TypeId) []))) w nilV j,Value.int IntKind.i64 (Int.ofNat 0)=Value.int IntKind.i64 (Int.ofNat 0)],by kernel_rfl,(by refine mcons ?_ (mcons ?_ (mcons ?_ (mcons ?_ (mcons ?_ (mcons ?_ (mcons ?_ (mcons ?_ (mcons ?_ (mcons ?_ (mcons ?_ (mcons ?_ mnil)))))))))))<;>first|rfl|exact h0|trivial|(exact nil_tabL rfl)|(exact nil_tabQ rfl))⟩
def C_rnewG:Ctr Td:=fun us sub=>match us,sub with
 |[.one (.v (.int .i64 n))],([]:Mem Td)=>some ([1≤n∧n≤4096],.tup [.one (.ptr 0 0),.one (.kI .i64 0)],[⟨.bx [.obj 1,.obj 2,.v (.int .i64 (-1)),.v (.bool false)],true⟩,⟨.us (.ext (.tab (.bs (List.replicate n.toNat sec0)))),true⟩,⟨.us (.ext (.tab (.wq 89 []))),true⟩])
 |_,_=>none
set_option maxRecDepth 100000 in
theorem C_rnewG_ok:CtrOk Try.prog Id' 24 C_rnewG:=by
 intro us sub ps x sm h hp w e vs hM ha
 unfold C_rnewG at h
 split at h
 ·rename_i n
  simp only [Option.some.injEq,Prod.mk.injEq] at h
  obtain ⟨rfl,rfl,rfl⟩:=h
  have h:=hp _ (List.mem_cons_self ..)
  have h0:(decide (n<1)||decide (n>4096))=false:=by rw [decide_eq_false (by omega),decide_eq_false (by omega)];rfl
  have hn1:0≤n∧n≤4096:=by omega
  exact ctr_way (I:=Id') (fun (W0:World) (G:Nat→Prop)=>SyOk.mk2 Try.mixed dkHo_ok (FnsR.nil) EqsOk.nil) rfl Try.func24 (by kernel_rfl) (fun _ _=>LpsOk.cons (by kernel_rfl) (rnew_lp n hn1 _ rfl) (LpsOk.nil _)) (cs:=[false]) (by kernel_rfl) (rnewG_w0 n h0) w e vs hM ha
 ·cases h
end Go.Proofs.Ytonomiljclemnaa
set_option linter.unusedVariables false
set_option linter.unusedSimpArgs false
namespace Go.Proofs.Ytonomiljclemnaa
open Go.RowKit
end Go.Proofs.Ytonomiljclemnaa
set_option linter.unusedVariables false
set_option linter.unusedSimpArgs false
namespace Go.Proofs.Ytonomiljclemnaa
open Go.RowKit
end Go.Proofs.Ytonomiljclemnaa
set_option linter.unusedVariables false
set_option linter.unusedSimpArgs false
namespace Go.Proofs.Ytonomiljclemnaa
open Go.RowKit
end Go.Proofs.Ytonomiljclemnaa
set_option linter.unusedVariables false
set_option linter.unusedSimpArgs false
namespace Go.Proofs.Ytonomiljclemnaa
open Go.RowKit
structure DS where
 L:List (List UInt8)
 Q:List (Int×List UInt8)
 fu:Int
 fd:Bool
 off:Bool
def rOf (fd:Bool) (fu:Int):Int:=bif fd then fu else -1
structure DInv (n k:Nat) (s:DS):Prop where
 L:WidL s.L
 len:s.L.length=n
 Q:∀ q∈s.Q,q.2.length=128
 k:s.Q.length≤k
 at':AtQ n s.Q
 fu:0≤s.fu∧s.fu≤9223372036854775807
 off:s.off=true→s.fd=true∧s.fu=0
theorem DInv.wq {n k:Nat} {s:DS} (h:DInv n k s) (hk:k≤100000):WidQ s.Q:=⟨h.Q,Nat.le_trans h.k hk⟩
theorem DInv.mono {n k:Nat} {s:DS} (h:DInv n k s):DInv n (k+1) s:=⟨h.L,h.len,h.Q,Nat.le_succ_of_le h.k,h.at',h.fu,h.off⟩
theorem rOf_off (off fd:Bool) (fu:Int):rOff off (rOf fd fu)=stOff off fd fu:=by
 unfold rOff rOf stOff
 cases fd
 ·simp
 ·simp
theorem rOf_fu {off fd:Bool} {fu:Int} (h0:0≤fu) (h:off=true→fd=true∧fu=0):rFu (rOf fd fu)=rOf fd (stFu off fd fu):=by
 unfold rFu rOf stFu
 cases fd with
 |false=>simp
 |true=>
  cases off with
  |true=>
   obtain ⟨_,rfl⟩:=h rfl
   simp
  |false=>
   by_cases h1:fu=0
   ·subst h1;simp
   ·have:0<fu:=by omega
    have h2:(fu==0)=false:=beq_eq_false_iff_ne.2 h1
    simp only [cond_true,this,decide_true,gt_iff_lt,h2,Bool.not_false,Bool.and_self,Bool.true_and]
theorem st_in {off fd:Bool} {fu:Int} (h0:0≤fu∧fu≤9223372036854775807):0≤stFu off fd fu∧stFu off fd fu≤9223372036854775807:=by
 unfold stFu
 cases hc:(!off&&(fd&&!(fu==0))) with
 |false=>simpa using h0
 |true=>
  have h1:fu≠0:=by
   intro e;subst e;simp at hc
  rw [cond_true,IntWalk.i64_in _ (by omega)]
  omega
theorem st_off {off fd:Bool} {fu:Int} (h:off=true→fd=true∧fu=0) (h1:stOff off fd fu=true):fd=true∧stFu off fd fu=0:=by
 unfold stOff at h1
 unfold stFu
 cases off with
 |true=>obtain ⟨rfl,rfl⟩:=h rfl;simp
 |false=>
  simp at h1
  obtain ⟨rfl,rfl⟩:=h1
  simp
theorem rdBad_wrong {n:Nat} (hn:0<n) (i:Int):(wrongI (n:Int) i != 0)=rdBad i (n:Int):=by
 have:((n:Int)==0)=false:=beq_eq_false_iff_ne.2 (by omega)
 unfold wrongI rdBad
 rw [this]
 cases (decide (i<0)||decide (i≥(n:Int)))<;>simp
theorem wrB_eq {n:Nat} (hn:0<n) (i m:Int):wrB (n:Int) i m=!(rdBad i (n:Int)||m != 128):=by
 unfold wrB
 have h:=rdBad_wrong hn i
 cases hw:(wrongI (n:Int) i==0)
 ·have:(wrongI (n:Int) i != 0)=true:=by simp [bne,hw]
  rw [this] at h
  rw [← h];simp
 ·have:(wrongI (n:Int) i != 0)=false:=by simp [bne,hw]
  rw [this] at h
  rw [← h]
  simp [bne]
theorem wrE_eq {n:Nat} (hn:0<n) (i m:Int) (off fd:Bool) (fu:Int):wrE (n:Int) i m off fd fu=rwE i (n:Int) m off (rOf fd fu):=by
 have h:=rdBad_wrong hn i
 have h0:((n:Int)==0)=false:=beq_eq_false_iff_ne.2 (by omega)
 unfold wrE rwE
 rw [rOf_off]
 cases hb:rdBad i (n:Int) with
 |true=>
  have hw:wrongI (n:Int) i=2:=by
   unfold wrongI
   unfold rdBad at hb
   rw [h0,hb];rfl
  rw [hw];simp
 |false=>
  rw [hb] at h
  rw [h]
  cases (m != 128)<;>simp
def wrS (n:Nat) (i:Int) (b:List UInt8) (s:DS):DS:=⟨s.L,wrQ s.Q (n:Int) i b s.off s.fd s.fu,wrFu (n:Int) i (b.length:Int) s.off s.fd s.fu,s.fd,wrOff (n:Int) i (b.length:Int) s.off s.fd s.fu⟩
theorem wr_inv {n k:Nat} {s:DS} (h:DInv n k s) (hn:0<n) (i:Int) (b:List UInt8):DInv n (k+1) (wrS n i b s):=by
 unfold wrS
 have hB:wrB (n:Int) i (b.length:Int)=true→(0≤i∧i.toNat<n)∧b.length=128:=fun hb=>by
  rw [wrB_eq hn] at hb
  simp [rdBad] at hb
  omega
 refine ⟨h.L,h.len,fun q hq=>?_,?_,fun q hq=>?_,?_,fun ho=>?_⟩
 ·simp only [wrQ] at hq
  cases hc:(wrB (n:Int) i (b.length:Int)&&!stOff s.off s.fd s.fu) with
  |false=>rw [hc] at hq;exact h.Q q hq
  |true=>
   rw [hc] at hq
   rcases List.mem_append.1 hq with hq|hq
   ·exact h.Q q hq
   ·simp at hq;subst hq
    simp at hc
    exact (hB hc.1).2
 ·simp only [wrQ]
  have:=h.k
  cases (wrB (n:Int) i (b.length:Int)&&!stOff s.off s.fd s.fu)<;>simp<;>omega
 ·simp only [wrQ] at hq
  cases hc:(wrB (n:Int) i (b.length:Int)&&!stOff s.off s.fd s.fu) with
  |false=>rw [hc] at hq;exact h.at' q hq
  |true=>
   rw [hc] at hq
   rcases List.mem_append.1 hq with hq|hq
   ·exact h.at' q hq
   ·simp at hq;subst hq
    simp at hc
    exact (hB hc.1).1
 ·simp only [wrFu]
  cases wrB (n:Int) i (b.length:Int)
  ·exact h.fu
  ·exact st_in h.fu
 ·simp only [wrOff,wrFu] at ho ⊢
  cases hc:wrB (n:Int) i (b.length:Int) with
  |false=>rw [hc] at ho;exact h.off ho
  |true=>rw [hc] at ho;exact st_off h.off ho
theorem rwFu_eq {n k:Nat} {s:DS} (h:DInv n k s) (hn:0<n) (i m:Int):rwFu i (n:Int) m (rOf s.fd s.fu)=rOf s.fd (wrFu (n:Int) i m s.off s.fd s.fu):=by
 unfold rwFu wrFu
 rw [wrB_eq hn]
 cases (rdBad i (n:Int)||m != 128) with
 |true=>rfl
 |false=>exact rOf_fu h.fu.1 h.off
theorem rwOff_eq {n:Nat} {s:DS} (hn:0<n) (i m:Int):rwOff i (n:Int) m s.off (rOf s.fd s.fu)=wrOff (n:Int) i m s.off s.fd s.fu:=by
 unfold rwOff wrOff
 rw [wrB_eq hn,rOf_off]
 cases (rdBad i (n:Int)||m != 128)<;>rfl
theorem rwQ_eq {n:Nat} {s:DS} (hn:0<n) (i:Int) (b:List UInt8):rwQ s.Q i (n:Int) b s.off (rOf s.fd s.fu)=wrQ s.Q (n:Int) i b s.off s.fd s.fu:=by
 unfold rwQ wrQ rwE
 rw [wrB_eq hn,rOf_off]
 cases (rdBad i (n:Int)||(b.length:Int) != 128)<;>cases stOff s.off s.fd s.fu<;>rfl
def flS (n:Nat) (s:DS):DS:=⟨flL s.L s.Q (flE (n:Int) s.off s.fd s.fu),flP s.Q (flE (n:Int) s.off s.fd s.fu),flFu (n:Int) s.off s.fd s.fu,s.fd,flOff (n:Int) s.off s.fd s.fu⟩
theorem flE_eq {n:Nat} (hn:0<n) (off fd:Bool) (fu:Int):flE (n:Int) off fd fu=rfE off (rOf fd fu):=by
 have h0:((n:Int)==0)=false:=beq_eq_false_iff_ne.2 (by omega)
 unfold flE rfE
 rw [h0,rOf_off];rfl
theorem fl_eq {n k:Nat} {s:DS} (h:DInv n k s) (hn:0<n):rfL s.L s.Q s.off (rOf s.fd s.fu)=(flS n s).L∧rfQ s.Q s.off (rOf s.fd s.fu)=(flS n s).Q∧rFu (rOf s.fd s.fu)=rOf (flS n s).fd (flS n s).fu∧rOff s.off (rOf s.fd s.fu)=(flS n s).off:=by
 have h0:((n:Int)==0)=false:=beq_eq_false_iff_ne.2 (by omega)
 unfold flS
 simp only
 rw [flE_eq hn]
 refine ⟨?_,?_,?_,?_⟩
 ·unfold rfL flL rfE
  cases rOff s.off (rOf s.fd s.fu)<;>rfl
 ·unfold rfQ flP rfE
  cases rOff s.off (rOf s.fd s.fu)<;>rfl
 ·unfold flFu
  rw [h0]
  exact rOf_fu h.fu.1 h.off
 ·unfold flOff
  rw [h0,rOf_off];rfl
theorem fl_inv {n k:Nat} {s:DS} (h:DInv n k s) (hn:0<n) (hk:k≤100000):DInv n (k+1) (flS n s):=by
 have h0:((n:Int)==0)=false:=beq_eq_false_iff_ne.2 (by omega)
 have hQ:=h.wq hk
 have hw:WidL (flD s.L s.Q):=flQ_wid h.L hQ _ (Nat.le_refl _)
 unfold flS
 refine ⟨?_,?_,fun q hq=>?_,?_,fun q hq=>?_,?_,fun ho=>?_⟩
 ·simp only [flL];cases (flE (n:Int) s.off s.fd s.fu==0)
  ·exact h.L
  ·exact hw
 ·simp only [flL];cases (flE (n:Int) s.off s.fd s.fu==0)
  ·exact h.len
  ·exact (flQ_len _ _ _).trans h.len
 ·simp only [flP] at hq;cases hc:(flE (n:Int) s.off s.fd s.fu==0)<;>rw [hc] at hq
  ·exact h.Q q hq
  ·cases hq
 ·simp only [flP];have:=h.k;cases (flE (n:Int) s.off s.fd s.fu==0)<;>simp<;>omega
 ·simp only [flP] at hq;cases hc:(flE (n:Int) s.off s.fd s.fu==0)<;>rw [hc] at hq
  ·exact h.at' q hq
  ·cases hq
 ·simp only [flFu,h0,cond_false];exact st_in h.fu
 ·simp only [flFu,flOff,h0,cond_false] at ho ⊢;exact st_off h.off ho
def fuS (n:Nat) (x:Int) (s:DS):DS:=⟨s.L,s.Q,fuV (n:Int) x s.off s.fu,fuD (n:Int) x s.off s.fd,s.off⟩
theorem fu_eq {n:Nat} {s:DS} (hn:0<n) (x:Int):fuE (n:Int) x s.off=armE x s.off∧armFu x s.off (rOf s.fd s.fu)=rOf (fuS n x s).fd (fuS n x s).fu:=by
 have h0:((n:Int)==0)=false:=beq_eq_false_iff_ne.2 (by omega)
 unfold fuS fuV fuD fuE armE armFu
 simp only [h0,cond_false]
 refine ⟨trivial,?_⟩
 cases decide (x<0) with
 |true=>simp
 |false=>cases s.off<;>simp [rOf]
theorem fu_inv {n k:Nat} {s:DS} (h:DInv n k s) (hn:0<n) {x:Int} (hx:x≤9223372036854775807):DInv n (k+1) (fuS n x s):=by
 have h0:((n:Int)==0)=false:=beq_eq_false_iff_ne.2 (by omega)
 refine ⟨h.L,h.len,h.Q,Nat.le_succ_of_le h.k,h.at',?_,fun ho=>?_⟩
 ·simp only [fuS,fuV,fuE,h0,cond_false]
  cases hd:decide (x<0) with
  |true=>exact h.fu
  |false=>
   have:=of_decide_eq_false hd
   cases s.off with
   |true=>exact h.fu
   |false=>simp;omega
 ·have ho:s.off=true:=ho
  obtain ⟨h1,h2⟩:=h.off ho
  simp only [fuS,fuV,fuD,fuE,h0,cond_false,ho,cond_true,h1,h2]
  cases decide (x<0)<;>simp
def crS (ks:List Int) (tn:Int) (s:DS):DS:=⟨crD s.L s.Q ks tn,[],s.fu,false,false⟩
theorem cr_inv {n k:Nat} {s:DS} (h:DInv n k s) (hk:k≤100000) (ks:List Int) (tn:Int):DInv n (k+1) (crS ks tn s):=
 ⟨crQ_wid h.L (h.wq hk) (by rw [h.len];exact h.at') _ (Nat.le_refl _),(crQ_len _ _ _ _ _).trans h.len,(fun q hq=>by cases hq),Nat.zero_le _,(fun q hq=>by cases hq),h.fu,(fun h=>by cases h)⟩
def new0 (n:Nat):DS:=⟨List.replicate n sec0,[],0,false,false⟩
theorem new0_inv (n:Nat):DInv n 0 (new0 n):=⟨(fun l hl=>by rw [List.eq_of_mem_replicate hl];rfl),List.length_replicate,(fun q hq=>by cases hq),Nat.le_refl _,(fun q hq=>by cases hq),⟨Int.le_refl 0,(by show (0:Int)≤_;decide)⟩,fun h=>by cases h⟩
end Go.Proofs.Ytonomiljclemnaa
set_option linter.unusedVariables false
set_option linter.unusedSimpArgs false
namespace Go.Proofs.Ytonomiljclemnaa
open Go.RowKit Go.ChangeShapes Go.WideShapes Go.ChangeAt
theorem args_us {w:World} {e:Env} {mem:Mem Td} (h:MemOk w (FootOf Id' w e mem) Id' w e mem) (hro:∀ n∈mem,n.mu=false) {u:Value} {b:Td} (hb:Id'.holds b w u) (hlt:∀ k,Id'.foot b w u k→k<w.heap.size):MemOk w (FootOf Id' w (e++[u]) (mem++[⟨.us b,false⟩])) Id' w (e++[u]) (mem++[⟨.us b,false⟩]):=by
 have hget:∀ (i:Nat) (v:Value) (n:En Td),(e++[u])[i]? =some v→(mem++[⟨.us b,false⟩])[i]? =some n→(e[i]? =some v∧mem[i]? =some n)∨(v=u∧n=⟨.us b,false⟩):=fun i v n hv hn=>by
  have hl:=h.len
  rcases Nat.lt_or_ge i e.length with hi|hi
  ·rw [List.getElem?_append_left hi] at hv
   rw [List.getElem?_append_left (by omega)] at hn
   exact .inl ⟨hv,hn⟩
  ·rw [List.getElem?_append_right hi] at hv
   rw [List.getElem?_append_right (by omega)] at hn
   rw [hl] at hv
   cases hq:i - mem.length with
   |zero=>rw [hq] at hv hn;simp at hv hn;exact .inr ⟨hv.symm,hn.symm⟩
   |succ q=>rw [hq] at hv;simp at hv
 have hmu:∀ (i:Nat) (v:Value) (n:En Td),(e++[u])[i]? =some v→(mem++[⟨.us b,false⟩])[i]? =some n→n.mu=false:=fun i v n hv hn=>by
  rcases hget i v n hv hn with ⟨_,h2⟩|⟨_,rfl⟩
  ·exact hro n (List.mem_of_getElem? h2)
  ·rfl
 refine ⟨by simp [h.len],fun i v n hv hn=>?_,fun i v n hv hn k hk=>?_,fun i v n hv hn hm=>?_,fun i j v x n m hv hn hm=>?_,Mod.refl _ w,fun i v n hv hn k hk=>.inr (footO.2 ⟨i,v,n,hv,hn,hk⟩)⟩
 ·rcases hget i v n hv hn with ⟨h1,h2⟩|⟨rfl,rfl⟩
  ·exact (h.holds i v n h1 h2).mono (Grows.push e u)
  ·exact hb
 ·rcases hget i v n hv hn with ⟨h1,h2⟩|⟨rfl,rfl⟩
  ·exact h.lt i v n h1 h2 k hk
  ·exact hlt k hk
 ·rw [hmu i v n hv hn] at hm;cases hm
 ·rw [hmu i v n hv hn] at hm;cases hm
theorem rs_lt {w:World} {sz n:Nat} {u:Value} {vals:List Value} (h:Rs w sz u n vals) (hn:n≠0) (hs:0<sz) {k:Nat} (hk:u.ownBlock=some k):k<w.heap.size:=by
 obtain ⟨hl,ao,cap,rfl,h2,h3,h4,h5⟩:=h
 cases ao with
 |none=>cases hk
 |some a=>
  have hlt:0<vals.length:=by rw [hl];exact Nat.mul_pos (by omega) hs
  have:=h5 a rfl 0 _ (List.getElem?_eq_getElem hlt)
  have hb:=World.block_lt_of_cell? w _ this
  rw [add_block] at hb
  cases hk
  exact hb
section
variable {H:Type} {enc:TypeId×Value→H} {W:World}
end
end Go.Proofs.Ytonomiljclemnaa
set_option linter.unusedVariables false
set_option linter.unusedSimpArgs false
namespace Go.Proofs.Ytonomiljclemnaa
open Go.RowKit
def withI (x a b:Int):Int:=bif decide (x<a) then a else bif decide (x>b) then b else x
set_option maxRecDepth 100000 in
theorem within_w0 (x a b:Int) (h0:decide (x<a)=true):∃ qs,wayV ((runFn (⟨Try.prog,[],[],dkHo,Id'.one,60⟩:Sy Td) [] Try.f13 [.one (.v (.int .i64 x)),.one (.v (.int .i64 a)),.one (.v (.int .i64 b))] (roM [])).al [true]) (fun u=>u=.int .i64 (withI x a b))=some qs∧∀ q∈qs,q:=
 ⟨[Value.int IntKind.i64 a=Value.int IntKind.i64 (withI x a b),decide (x<a)=true],by kernel_rfl,(by refine mcons ?_ (mcons ?_ mnil)<;>first|rfl|exact h0|trivial|(simp only [withI,h0,h1,cond_true,cond_false];done)|(simp only [withI,h0,h1,cond_true,cond_false];rfl)|(simp [withI,h0,h1];done)|(simp only [withI,h0,cond_true,cond_false];done)|(simp only [withI,h0,cond_true,cond_false];rfl)|(simp [withI,h0];done))⟩
set_option maxRecDepth 100000 in
theorem within_w1 (x a b:Int) (h0:decide (x<a)=false) (h1:decide (x>b)=true):∃ qs,wayV ((runFn (⟨Try.prog,[],[],dkHo,Id'.one,60⟩:Sy Td) [] Try.f13 [.one (.v (.int .i64 x)),.one (.v (.int .i64 a)),.one (.v (.int .i64 b))] (roM [])).al [false,true]) (fun u=>u=.int .i64 (withI x a b))=some qs∧∀ q∈qs,q:=
 ⟨[Value.int IntKind.i64 b=Value.int IntKind.i64 (withI x a b),decide (x<a)=false,decide (x>b)=true],by kernel_rfl,(by refine mcons ?_ (mcons ?_ (mcons ?_ mnil))<;>first|rfl|exact h0|exact h1|trivial|(simp only [withI,h0,h1,cond_true,cond_false];done)|(simp only [withI,h0,h1,cond_true,cond_false];rfl)|(simp [withI,h0,h1];done)|(simp only [withI,h0,cond_true,cond_false];done)|(simp only [withI,h0,cond_true,cond_false];rfl)|(simp [withI,h0];done))⟩
set_option maxRecDepth 100000 in
theorem within_w2 (x a b:Int) (h0:decide (x<a)=false) (h1:decide (x>b)=false):∃ qs,wayV ((runFn (⟨Try.prog,[],[],dkHo,Id'.one,60⟩:Sy Td) [] Try.f13 [.one (.v (.int .i64 x)),.one (.v (.int .i64 a)),.one (.v (.int .i64 b))] (roM [])).al [false,false]) (fun u=>u=.int .i64 (withI x a b))=some qs∧∀ q∈qs,q:=
 ⟨[Value.int IntKind.i64 x=Value.int IntKind.i64 (withI x a b),decide (x<a)=false,decide (x>b)=false],by kernel_rfl,(by refine mcons ?_ (mcons ?_ (mcons ?_ mnil))<;>first|rfl|exact h0|exact h1|trivial|(simp only [withI,h0,h1,cond_true,cond_false];done)|(simp only [withI,h0,h1,cond_true,cond_false];rfl)|(simp [withI,h0,h1];done)|(simp only [withI,h0,cond_true,cond_false];done)|(simp only [withI,h0,cond_true,cond_false];rfl)|(simp [withI,h0];done))⟩
def C_within:CtrV Td:=fun us sub=>match us,sub with
 |[.one (.v (.int .i64 x)),.one (.v (.int .i64 a)),.one (.v (.int .i64 b))],[]=>some ([],.int .i64 (withI x a b))
 |_,_=>none
set_option maxRecDepth 100000 in
theorem C_within_ok:CtrVOk Try.prog Id' 13 C_within:=by
 intro us sub ps x h hp w e vs hM ha
 unfold C_within at h
 split at h
 ·rename_i x a b
  simp only [Option.some.injEq,Prod.mk.injEq] at h
  obtain ⟨rfl,rfl⟩:=h
  rcases Bool.eq_false_or_eq_true (decide (x<a)) with h0|h0
  ·exact ctrv_way (I:=Id') (fun (W0:World) (G:Nat→Prop)=>SyOk.mk2 Try.mixed dkHo_ok (FnsR.nil) EqsOk.nil) rfl Try.func13 (by kernel_rfl) (fun _ _=>LpsOk.nil _) (cs:=[true]) (by kernel_rfl) (within_w0 x a b h0) w e vs hM ha
  ·rcases Bool.eq_false_or_eq_true (decide (x>b)) with h1|h1
   ·exact ctrv_way (I:=Id') (fun (W0:World) (G:Nat→Prop)=>SyOk.mk2 Try.mixed dkHo_ok (FnsR.nil) EqsOk.nil) rfl Try.func13 (by kernel_rfl) (fun _ _=>LpsOk.nil _) (cs:=[false,true]) (by kernel_rfl) (within_w1 x a b h0 h1) w e vs hM ha
   ·exact ctrv_way (I:=Id') (fun (W0:World) (G:Nat→Prop)=>SyOk.mk2 Try.mixed dkHo_ok (FnsR.nil) EqsOk.nil) rfl Try.func13 (by kernel_rfl) (fun _ _=>LpsOk.nil _) (cs:=[false,false]) (by kernel_rfl) (within_w2 x a b h0 h1) w e vs hM ha
 ·cases h
theorem R_within:RowOk Try.prog Id' hardD 13 (ctrV C_within hardD):=ctrV_ok Try.call13 C_within_ok
end Go.Proofs.Ytonomiljclemnaa
set_option linter.unusedVariables false
set_option linter.unusedSimpArgs false
namespace Go.Proofs.Ytonomiljclemnaa
open Go.RowKit
end Go.Proofs.Ytonomiljclemnaa
set_option linter.unusedVariables false
set_option linter.unusedSimpArgs false
namespace Go.Proofs.Ytonomiljclemnaa
open Go.RowKit
end Go.Proofs.Ytonomiljclemnaa
set_option linter.unusedVariables false
set_option linter.unusedSimpArgs false
namespace Go.Proofs.Ytonomiljclemnaa
open Go.RowKit
def svW (tl fl:Int):WS:=(WS.new.put tl 40).put fl 24
def svP (ep gn tl fl:Int):Pc:=pcI ep gn true true (svW tl fl).out
def svK (n i ep gn tl fl:Int):Int:=bif hwI n i != 0 then hwI n i else bif (svW tl fl).err != 0 then 2 else bif (okN (svP ep gn tl fl):Int) != 0 then 2 else 0
def svX (s:DS) (i ep gn tl fl:Int):Int:=wrE (s.L.length:Int) (hpI i gn) ((okL (svP ep gn tl fl)).length:Int) s.off s.fd s.fu
def svT (s:DS) (i ep gn tl fl:Int):DS:=wrS s.L.length (hpI i gn) (okL (svP ep gn tl fl)) s
def svS (s:DS) (i ep gn tl fl:Int):DS:=bif svK (s.L.length:Int) i ep gn tl fl != 0 then s else bif svX s i ep gn tl fl != 0 then svT s i ep gn tl fl else flS s.L.length (svT s i ep gn tl fl)
def svE (s:DS) (i ep gn tl fl:Int):Int:=bif svK (s.L.length:Int) i ep gn tl fl != 0 then svK (s.L.length:Int) i ep gn tl fl else bif svX s i ep gn tl fl != 0 then svX s i ep gn tl fl else flE (s.L.length:Int) (svT s i ep gn tl fl).off (svT s i ep gn tl fl).fd (svT s i ep gn tl fl).fu
set_option maxRecDepth 100000 in
theorem save0_w0 (L:List (List UInt8)) (Q:List (Int×List UInt8)) (fu:Int) (fd off:Bool) (i ep gn tl fl:Int) (h0:(hwI (L.length:Int) i != 0)=true) (h1:0≤ep∧0≤gn) (h2:0≤tl∧tl<18446744073709551616) (h3:0≤fl∧fl<18446744073709551616) (h4:Q.length+1≤100000) (h5:WidQ (svT (⟨L,Q,fu,fd,off⟩:DS) i ep gn tl fl).Q) (h6:AtQ L.length (svT (⟨L,Q,fu,fd,off⟩:DS) i ep gn tl fl).Q) (h7:(svS (⟨L,Q,fu,fd,off⟩:DS) i ep gn tl fl)=(⟨L,Q,fu,fd,off⟩:DS)) (h8:svE (⟨L,Q,fu,fd,off⟩:DS) i ep gn tl fl=hwI (L.length:Int) i):∃ qs,wayO Id' ([⟨.bx [.obj 1,.obj 2,.v (.int .i64 fu),.v (.bool fd),.v (.bool off)],true⟩,⟨.us (.ext (.flat (.secs L))),true⟩,⟨.us (.ext (.flat (.pens Q))),true⟩]:Mem Td).length [⟨.bx [.obj 1,.obj 3,.v (.int .i64 (svS (⟨L,Q,fu,fd,off⟩:DS) i ep gn tl fl).fu),.v (.bool (svS (⟨L,Q,fu,fd,off⟩:DS) i ep gn tl fl).fd),.v (.bool (svS (⟨L,Q,fu,fd,off⟩:DS) i ep gn tl fl).off)],true⟩,⟨.us (.ext (.flat (.secs (svS (⟨L,Q,fu,fd,off⟩:DS) i ep gn tl fl).L))),true⟩,⟨.dead,true⟩,⟨.us (.ext (.flat (.pens (svS (⟨L,Q,fu,fd,off⟩:DS) i ep gn tl fl).Q))),true⟩] (svV (.int .i64 (svE (⟨L,Q,fu,fd,off⟩:DS) i ep gn tl fl))) ((runFn (⟨Try.prog,[(45,ctrV C_hwrong hardD),(F_new (hx:=hardDk):Nat×Fn2 Td),(F_put (hx:=hardDk):Nat×Fn2 Td),(F_done (hx:=hardDk):Nat×Fn2 Td),(50,ctrF Id' C_seal hardD),(51,ctrV C_hplace hardD),(15,ctrF Id' C_write hardD),(11,ctrF Id' C_flush hardD)],[],dkHo,Id'.one,60⟩:Sy Td) [] Try.f36 [.one (.ptr 0 0),.one (.v (.int .i64 i)),.one (.v (.int .u64 ep)),.agg [.v (.int .u64 gn),.v (.int .u64 tl),.v (.int .u64 fl)]] [⟨.bx [.obj 1,.obj 2,.v (.int .i64 fu),.v (.bool fd),.v (.bool off)],true⟩,⟨.us (.ext (.flat (.secs L))),true⟩,⟨.us (.ext (.flat (.pens Q))),true⟩]).al [true])=some qs∧∀ q∈qs,q:=
 ⟨[(hwI (↑L.length:Int) i != (0:Int))=true,Value.int IntKind.i64 fu=Value.int IntKind.i64 (svS (DS.mk L Q fu fd off) i ep gn tl fl).fu,Value.bool fd=Value.bool (svS (DS.mk L Q fu fd off) i ep gn tl fl).fd,Value.bool off=Value.bool (svS (DS.mk L Q fu fd off) i ep gn tl fl).off,Th.ext (Dk.flat (FL.secs L))=Th.ext (Dk.flat (FL.secs (svS (DS.mk L Q fu fd off) i ep gn tl fl).1)),Th.ext (Dk.flat (FL.pens Q))=Th.ext (Dk.flat (FL.pens (svS (DS.mk L Q fu fd off) i ep gn tl fl).2)),Value.int IntKind.i64 (hwI (↑L.length:Int) i)=Value.int IntKind.i64 (svE (DS.mk L Q fu fd off) i ep gn tl fl)],by kernel_rfl,(by refine mcons ?_ (mcons ?_ (mcons ?_ (mcons ?_ (mcons ?_ (mcons ?_ (mcons ?_ mnil))))))<;>first|rfl|exact h0|exact h1|exact h2|exact h3|exact h4|exact h5|exact h6|exact h7|exact h8|trivial|(rw [h7];rfl)|(rw [h7])|(rw [h8];rfl)|(rw [h8]))⟩
set_option maxRecDepth 100000 in
theorem save1_w0 (L:List (List UInt8)) (Q:List (Int×List UInt8)) (fu:Int) (fd off:Bool) (i ep gn tl fl:Int) (h0:(hwI (L.length:Int) i != 0)=false) (h1:((svW tl fl).err != 0)=true) (h2:0≤ep∧0≤gn) (h3:0≤tl∧tl<18446744073709551616) (h4:0≤fl∧fl<18446744073709551616) (h5:Q.length+1≤100000) (h6:WidQ (svT (⟨L,Q,fu,fd,off⟩:DS) i ep gn tl fl).Q) (h7:AtQ L.length (svT (⟨L,Q,fu,fd,off⟩:DS) i ep gn tl fl).Q) (h8:(svS (⟨L,Q,fu,fd,off⟩:DS) i ep gn tl fl)=(⟨L,Q,fu,fd,off⟩:DS)) (h9:svE (⟨L,Q,fu,fd,off⟩:DS) i ep gn tl fl=2):∃ qs,wayO Id' ([⟨.bx [.obj 1,.obj 2,.v (.int .i64 fu),.v (.bool fd),.v (.bool off)],true⟩,⟨.us (.ext (.flat (.secs L))),true⟩,⟨.us (.ext (.flat (.pens Q))),true⟩]:Mem Td).length [⟨.bx [.obj 1,.obj 3,.v (.int .i64 (svS (⟨L,Q,fu,fd,off⟩:DS) i ep gn tl fl).fu),.v (.bool (svS (⟨L,Q,fu,fd,off⟩:DS) i ep gn tl fl).fd),.v (.bool (svS (⟨L,Q,fu,fd,off⟩:DS) i ep gn tl fl).off)],true⟩,⟨.us (.ext (.flat (.secs (svS (⟨L,Q,fu,fd,off⟩:DS) i ep gn tl fl).L))),true⟩,⟨.dead,true⟩,⟨.us (.ext (.flat (.pens (svS (⟨L,Q,fu,fd,off⟩:DS) i ep gn tl fl).Q))),true⟩] (svV (.int .i64 (svE (⟨L,Q,fu,fd,off⟩:DS) i ep gn tl fl))) ((runFn (⟨Try.prog,[(45,ctrV C_hwrong hardD),(F_new (hx:=hardDk):Nat×Fn2 Td),(F_put (hx:=hardDk):Nat×Fn2 Td),(F_done (hx:=hardDk):Nat×Fn2 Td),(50,ctrF Id' C_seal hardD),(51,ctrV C_hplace hardD),(15,ctrF Id' C_write hardD),(11,ctrF Id' C_flush hardD)],[],dkHo,Id'.one,60⟩:Sy Td) [] Try.f36 [.one (.ptr 0 0),.one (.v (.int .i64 i)),.one (.v (.int .u64 ep)),.agg [.v (.int .u64 gn),.v (.int .u64 tl),.v (.int .u64 fl)]] [⟨.bx [.obj 1,.obj 2,.v (.int .i64 fu),.v (.bool fd),.v (.bool off)],true⟩,⟨.us (.ext (.flat (.secs L))),true⟩,⟨.us (.ext (.flat (.pens Q))),true⟩]).al [false,true])=some qs∧∀ q∈qs,q:=
 ⟨[(hwI (↑L.length:Int) i != (0:Int))=false,(0:Int)≤fl∧fl<(18446744073709551616:Int),(0:Int)≤tl∧tl<(18446744073709551616:Int),(((WS.new.put tl (↑40:Int)).put fl (↑24:Int)).err != (0:Int))=true,Value.int IntKind.i64 fu=Value.int IntKind.i64 (svS (DS.mk L Q fu fd off) i ep gn tl fl).fu,Value.bool fd=Value.bool (svS (DS.mk L Q fu fd off) i ep gn tl fl).fd,Value.bool off=Value.bool (svS (DS.mk L Q fu fd off) i ep gn tl fl).off,Th.ext (Dk.flat (FL.secs L))=Th.ext (Dk.flat (FL.secs (svS (DS.mk L Q fu fd off) i ep gn tl fl).1)),Th.ext (Dk.flat (FL.pens Q))=Th.ext (Dk.flat (FL.pens (svS (DS.mk L Q fu fd off) i ep gn tl fl).2)),Value.int IntKind.i64 (Int.ofNat 2)=Value.int IntKind.i64 (svE (DS.mk L Q fu fd off) i ep gn tl fl)],by kernel_rfl,(by refine mcons ?_ (mcons ?_ (mcons ?_ (mcons ?_ (mcons ?_ (mcons ?_ (mcons ?_ (mcons ?_ (mcons ?_ (mcons ?_ mnil)))))))))<;>first|rfl|exact h0|exact h1|exact h2|exact h3|exact h4|exact h5|exact h6|exact h7|exact h8|exact h9|trivial|(rw [h8];rfl)|(rw [h8])|(rw [h9];rfl)|(rw [h9]))⟩
set_option maxRecDepth 100000 in
theorem save2_w0 (L:List (List UInt8)) (Q:List (Int×List UInt8)) (fu:Int) (fd off:Bool) (i ep gn tl fl:Int) (h0:(hwI (L.length:Int) i != 0)=false) (h1:((svW tl fl).err != 0)=false) (h2:((okN (svP ep gn tl fl):Int) != 0)=true) (h3:0≤ep∧0≤gn) (h4:0≤tl∧tl<18446744073709551616) (h5:0≤fl∧fl<18446744073709551616) (h6:Q.length+1≤100000) (h7:WidQ (svT (⟨L,Q,fu,fd,off⟩:DS) i ep gn tl fl).Q) (h8:AtQ L.length (svT (⟨L,Q,fu,fd,off⟩:DS) i ep gn tl fl).Q) (h9:(svS (⟨L,Q,fu,fd,off⟩:DS) i ep gn tl fl)=(⟨L,Q,fu,fd,off⟩:DS)) (h10:svE (⟨L,Q,fu,fd,off⟩:DS) i ep gn tl fl=2):∃ qs,wayO Id' ([⟨.bx [.obj 1,.obj 2,.v (.int .i64 fu),.v (.bool fd),.v (.bool off)],true⟩,⟨.us (.ext (.flat (.secs L))),true⟩,⟨.us (.ext (.flat (.pens Q))),true⟩]:Mem Td).length [⟨.bx [.obj 1,.obj 3,.v (.int .i64 (svS (⟨L,Q,fu,fd,off⟩:DS) i ep gn tl fl).fu),.v (.bool (svS (⟨L,Q,fu,fd,off⟩:DS) i ep gn tl fl).fd),.v (.bool (svS (⟨L,Q,fu,fd,off⟩:DS) i ep gn tl fl).off)],true⟩,⟨.us (.ext (.flat (.secs (svS (⟨L,Q,fu,fd,off⟩:DS) i ep gn tl fl).L))),true⟩,⟨.dead,true⟩,⟨.us (.ext (.flat (.pens (svS (⟨L,Q,fu,fd,off⟩:DS) i ep gn tl fl).Q))),true⟩] (svV (.int .i64 (svE (⟨L,Q,fu,fd,off⟩:DS) i ep gn tl fl))) ((runFn (⟨Try.prog,[(45,ctrV C_hwrong hardD),(F_new (hx:=hardDk):Nat×Fn2 Td),(F_put (hx:=hardDk):Nat×Fn2 Td),(F_done (hx:=hardDk):Nat×Fn2 Td),(50,ctrF Id' C_seal hardD),(51,ctrV C_hplace hardD),(15,ctrF Id' C_write hardD),(11,ctrF Id' C_flush hardD)],[],dkHo,Id'.one,60⟩:Sy Td) [] Try.f36 [.one (.ptr 0 0),.one (.v (.int .i64 i)),.one (.v (.int .u64 ep)),.agg [.v (.int .u64 gn),.v (.int .u64 tl),.v (.int .u64 fl)]] [⟨.bx [.obj 1,.obj 2,.v (.int .i64 fu),.v (.bool fd),.v (.bool off)],true⟩,⟨.us (.ext (.flat (.secs L))),true⟩,⟨.us (.ext (.flat (.pens Q))),true⟩]).al [false,false,true])=some qs∧∀ q∈qs,q:=
 ⟨[(hwI (↑L.length:Int) i != (0:Int))=false,(0:Int)≤fl∧fl<(18446744073709551616:Int),(0:Int)≤tl∧tl<(18446744073709551616:Int),(((WS.new.put tl (↑40:Int)).put fl (↑24:Int)).err != (0:Int))=false,(0:Int)≤ep∧(0:Int)≤gn,(En.mk (Ob.us (Th.own ((WS.new.put tl (↑40:Int)).put fl (↑24:Int)).out)) true:En Td)=En.mk (Ob.us (Th.own ((WS.new.put tl (↑40:Int)).put fl (↑24:Int)).out)) true,((↑(okN (pcI ep gn true true ((WS.new.put tl (↑40:Int)).put fl (↑24:Int)).out)):Int) != (0:Int))=true,Value.int IntKind.i64 fu=Value.int IntKind.i64 (svS (DS.mk L Q fu fd off) i ep gn tl fl).fu,Value.bool fd=Value.bool (svS (DS.mk L Q fu fd off) i ep gn tl fl).fd,Value.bool off=Value.bool (svS (DS.mk L Q fu fd off) i ep gn tl fl).off,Th.ext (Dk.flat (FL.secs L))=Th.ext (Dk.flat (FL.secs (svS (DS.mk L Q fu fd off) i ep gn tl fl).1)),Th.ext (Dk.flat (FL.pens Q))=Th.ext (Dk.flat (FL.pens (svS (DS.mk L Q fu fd off) i ep gn tl fl).2)),Value.int IntKind.i64 (Int.ofNat 2)=Value.int IntKind.i64 (svE (DS.mk L Q fu fd off) i ep gn tl fl)],by kernel_rfl,(by refine mcons ?_ (mcons ?_ (mcons ?_ (mcons ?_ (mcons ?_ (mcons ?_ (mcons ?_ (mcons ?_ (mcons ?_ (mcons ?_ (mcons ?_ (mcons ?_ (mcons ?_ mnil))))))))))))<;>first|rfl|exact h0|exact h1|exact h2|exact h3|exact h4|exact h5|exact h6|exact h7|exact h8|exact h9|exact h10|trivial|(rw [h9];rfl)|(rw [h9])|(rw [h10];rfl)|(rw [h10]))⟩
set_option maxRecDepth 100000 in
theorem save3_w0 (L:List (List UInt8)) (Q:List (Int×List UInt8)) (fu:Int) (fd off:Bool) (i ep gn tl fl:Int) (h0:(hwI (L.length:Int) i != 0)=false) (h1:((svW tl fl).err != 0)=false) (h2:((okN (svP ep gn tl fl):Int) != 0)=false) (h3:(svX (⟨L,Q,fu,fd,off⟩:DS) i ep gn tl fl != 0)=true) (h4:0≤ep∧0≤gn) (h5:0≤tl∧tl<18446744073709551616) (h6:0≤fl∧fl<18446744073709551616) (h7:Q.length+1≤100000) (h8:WidQ (svT (⟨L,Q,fu,fd,off⟩:DS) i ep gn tl fl).Q) (h9:AtQ L.length (svT (⟨L,Q,fu,fd,off⟩:DS) i ep gn tl fl).Q) (h10:(svS (⟨L,Q,fu,fd,off⟩:DS) i ep gn tl fl)=(svT (⟨L,Q,fu,fd,off⟩:DS) i ep gn tl fl)) (h11:svE (⟨L,Q,fu,fd,off⟩:DS) i ep gn tl fl=svX (⟨L,Q,fu,fd,off⟩:DS) i ep gn tl fl):∃ qs,wayO Id' ([⟨.bx [.obj 1,.obj 2,.v (.int .i64 fu),.v (.bool fd),.v (.bool off)],true⟩,⟨.us (.ext (.flat (.secs L))),true⟩,⟨.us (.ext (.flat (.pens Q))),true⟩]:Mem Td).length [⟨.bx [.obj 1,.obj 3,.v (.int .i64 (svS (⟨L,Q,fu,fd,off⟩:DS) i ep gn tl fl).fu),.v (.bool (svS (⟨L,Q,fu,fd,off⟩:DS) i ep gn tl fl).fd),.v (.bool (svS (⟨L,Q,fu,fd,off⟩:DS) i ep gn tl fl).off)],true⟩,⟨.us (.ext (.flat (.secs (svS (⟨L,Q,fu,fd,off⟩:DS) i ep gn tl fl).L))),true⟩,⟨.dead,true⟩,⟨.us (.ext (.flat (.pens (svS (⟨L,Q,fu,fd,off⟩:DS) i ep gn tl fl).Q))),true⟩] (svV (.int .i64 (svE (⟨L,Q,fu,fd,off⟩:DS) i ep gn tl fl))) ((runFn (⟨Try.prog,[(45,ctrV C_hwrong hardD),(F_new (hx:=hardDk):Nat×Fn2 Td),(F_put (hx:=hardDk):Nat×Fn2 Td),(F_done (hx:=hardDk):Nat×Fn2 Td),(50,ctrF Id' C_seal hardD),(51,ctrV C_hplace hardD),(15,ctrF Id' C_write hardD),(11,ctrF Id' C_flush hardD)],[],dkHo,Id'.one,60⟩:Sy Td) [] Try.f36 [.one (.ptr 0 0),.one (.v (.int .i64 i)),.one (.v (.int .u64 ep)),.agg [.v (.int .u64 gn),.v (.int .u64 tl),.v (.int .u64 fl)]] [⟨.bx [.obj 1,.obj 2,.v (.int .i64 fu),.v (.bool fd),.v (.bool off)],true⟩,⟨.us (.ext (.flat (.secs L))),true⟩,⟨.us (.ext (.flat (.pens Q))),true⟩]).al [false,false,false,true])=some qs∧∀ q∈qs,q:=
 ⟨[(hwI (↑L.length:Int) i != (0:Int))=false,(0:Int)≤fl∧fl<(18446744073709551616:Int),(0:Int)≤tl∧tl<(18446744073709551616:Int),(((WS.new.put tl (↑40:Int)).put fl (↑24:Int)).err != (0:Int))=false,(0:Int)≤ep∧(0:Int)≤gn,(En.mk (Ob.us (Th.own ((WS.new.put tl (↑40:Int)).put fl (↑24:Int)).out)) true:En Td)=En.mk (Ob.us (Th.own ((WS.new.put tl (↑40:Int)).put fl (↑24:Int)).out)) true,((↑(okN (pcI ep gn true true ((WS.new.put tl (↑40:Int)).put fl (↑24:Int)).out)):Int) != (0:Int))=false,Q.length+(1:Nat)≤(100000:Nat),(En.mk (Ob.us (Th.own (okL (pcI ep gn true true ((WS.new.put tl (↑40:Int)).put fl (↑24:Int)).out)))) true:En Td)=En.mk (Ob.us (Th.own (okL (pcI ep gn true true ((WS.new.put tl (↑40:Int)).put fl (↑24:Int)).out)))) true,(wrE (↑L.length:Int) (hpI i gn) (↑(okL (pcI ep gn true true ((WS.new.put tl (↑40:Int)).put fl (↑24:Int)).out)).length:Int) off fd fu != (0:Int))=true,Value.int IntKind.i64 (wrFu (↑L.length:Int) (hpI i gn) (↑(okL (pcI ep gn true true ((WS.new.put tl (↑40:Int)).put fl (↑24:Int)).out)).length:Int) off fd fu)=Value.int IntKind.i64 (svS (DS.mk L Q fu fd off) i ep gn tl fl).fu,Value.bool fd=Value.bool (svS (DS.mk L Q fu fd off) i ep gn tl fl).fd,Value.bool (wrOff (↑L.length:Int) (hpI i gn) (↑(okL (pcI ep gn true true ((WS.new.put tl (↑40:Int)).put fl (↑24:Int)).out)).length:Int) off fd fu)=Value.bool (svS (DS.mk L Q fu fd off) i ep gn tl fl).off,Th.ext (Dk.flat (FL.secs L))=Th.ext (Dk.flat (FL.secs (svS (DS.mk L Q fu fd off) i ep gn tl fl).1)),Th.ext (Dk.flat (FL.pens (wrQ Q (↑L.length:Int) (hpI i gn) (okL (pcI ep gn true true ((WS.new.put tl (↑40:Int)).put fl (↑24:Int)).out)) off fd fu)))=Th.ext (Dk.flat (FL.pens (svS (DS.mk L Q fu fd off) i ep gn tl fl).2)),Value.int IntKind.i64 (wrE (↑L.length:Int) (hpI i gn) (↑(okL (pcI ep gn true true ((WS.new.put tl (↑40:Int)).put fl (↑24:Int)).out)).length:Int) off fd fu)=Value.int IntKind.i64 (svE (DS.mk L Q fu fd off) i ep gn tl fl)],by kernel_rfl,(by refine mcons ?_ (mcons ?_ (mcons ?_ (mcons ?_ (mcons ?_ (mcons ?_ (mcons ?_ (mcons ?_ (mcons ?_ (mcons ?_ (mcons ?_ (mcons ?_ (mcons ?_ (mcons ?_ (mcons ?_ (mcons ?_ mnil)))))))))))))))<;>first|rfl|exact h0|exact h1|exact h2|exact h3|exact h4|exact h5|exact h6|exact h7|exact h8|exact h9|exact h10|exact h11|trivial|(rw [h10];rfl)|(rw [h10])|(rw [h11];rfl)|(rw [h11]))⟩
set_option maxRecDepth 100000 in
theorem save4_w0 (L:List (List UInt8)) (Q:List (Int×List UInt8)) (fu:Int) (fd off:Bool) (i ep gn tl fl:Int) (h0:(hwI (L.length:Int) i != 0)=false) (h1:((svW tl fl).err != 0)=false) (h2:((okN (svP ep gn tl fl):Int) != 0)=false) (h3:(svX (⟨L,Q,fu,fd,off⟩:DS) i ep gn tl fl != 0)=false) (h4:0≤ep∧0≤gn) (h5:0≤tl∧tl<18446744073709551616) (h6:0≤fl∧fl<18446744073709551616) (h7:Q.length+1≤100000) (h8:WidQ (svT (⟨L,Q,fu,fd,off⟩:DS) i ep gn tl fl).Q) (h9:AtQ L.length (svT (⟨L,Q,fu,fd,off⟩:DS) i ep gn tl fl).Q) (h10:(svS (⟨L,Q,fu,fd,off⟩:DS) i ep gn tl fl)=(flS L.length (svT (⟨L,Q,fu,fd,off⟩:DS) i ep gn tl fl))) (h11:svE (⟨L,Q,fu,fd,off⟩:DS) i ep gn tl fl=flE (L.length:Int) (svT (⟨L,Q,fu,fd,off⟩:DS) i ep gn tl fl).off (svT (⟨L,Q,fu,fd,off⟩:DS) i ep gn tl fl).fd (svT (⟨L,Q,fu,fd,off⟩:DS) i ep gn tl fl).fu):∃ qs,wayO Id' ([⟨.bx [.obj 1,.obj 2,.v (.int .i64 fu),.v (.bool fd),.v (.bool off)],true⟩,⟨.us (.ext (.flat (.secs L))),true⟩,⟨.us (.ext (.flat (.pens Q))),true⟩]:Mem Td).length [⟨.bx [.obj 1,.obj 3,.v (.int .i64 (svS (⟨L,Q,fu,fd,off⟩:DS) i ep gn tl fl).fu),.v (.bool (svS (⟨L,Q,fu,fd,off⟩:DS) i ep gn tl fl).fd),.v (.bool (svS (⟨L,Q,fu,fd,off⟩:DS) i ep gn tl fl).off)],true⟩,⟨.us (.ext (.flat (.secs (svS (⟨L,Q,fu,fd,off⟩:DS) i ep gn tl fl).L))),true⟩,⟨.dead,true⟩,⟨.us (.ext (.flat (.pens (svS (⟨L,Q,fu,fd,off⟩:DS) i ep gn tl fl).Q))),true⟩] (svV (.int .i64 (svE (⟨L,Q,fu,fd,off⟩:DS) i ep gn tl fl))) ((runFn (⟨Try.prog,[(45,ctrV C_hwrong hardD),(F_new (hx:=hardDk):Nat×Fn2 Td),(F_put (hx:=hardDk):Nat×Fn2 Td),(F_done (hx:=hardDk):Nat×Fn2 Td),(50,ctrF Id' C_seal hardD),(51,ctrV C_hplace hardD),(15,ctrF Id' C_write hardD),(11,ctrF Id' C_flush hardD)],[],dkHo,Id'.one,60⟩:Sy Td) [] Try.f36 [.one (.ptr 0 0),.one (.v (.int .i64 i)),.one (.v (.int .u64 ep)),.agg [.v (.int .u64 gn),.v (.int .u64 tl),.v (.int .u64 fl)]] [⟨.bx [.obj 1,.obj 2,.v (.int .i64 fu),.v (.bool fd),.v (.bool off)],true⟩,⟨.us (.ext (.flat (.secs L))),true⟩,⟨.us (.ext (.flat (.pens Q))),true⟩]).al [false,false,false,false])=some qs∧∀ q∈qs,q:=
 ⟨[(hwI (↑L.length:Int) i != (0:Int))=false,(0:Int)≤fl∧fl<(18446744073709551616:Int),(0:Int)≤tl∧tl<(18446744073709551616:Int),(((WS.new.put tl (↑40:Int)).put fl (↑24:Int)).err != (0:Int))=false,(0:Int)≤ep∧(0:Int)≤gn,(En.mk (Ob.us (Th.own ((WS.new.put tl (↑40:Int)).put fl (↑24:Int)).out)) true:En Td)=En.mk (Ob.us (Th.own ((WS.new.put tl (↑40:Int)).put fl (↑24:Int)).out)) true,((↑(okN (pcI ep gn true true ((WS.new.put tl (↑40:Int)).put fl (↑24:Int)).out)):Int) != (0:Int))=false,Q.length+(1:Nat)≤(100000:Nat),(En.mk (Ob.us (Th.own (okL (pcI ep gn true true ((WS.new.put tl (↑40:Int)).put fl (↑24:Int)).out)))) true:En Td)=En.mk (Ob.us (Th.own (okL (pcI ep gn true true ((WS.new.put tl (↑40:Int)).put fl (↑24:Int)).out)))) true,(wrE (↑L.length:Int) (hpI i gn) (↑(okL (pcI ep gn true true ((WS.new.put tl (↑40:Int)).put fl (↑24:Int)).out)).length:Int) off fd fu != (0:Int))=false,(∀ (q:Int×List UInt8),q∈wrQ Q (↑L.length:Int) (hpI i gn) (okL (pcI ep gn true true ((WS.new.put tl (↑40:Int)).put fl (↑24:Int)).out)) off fd fu→q.snd.length=(128:Nat))∧(wrQ Q (↑L.length:Int) (hpI i gn) (okL (pcI ep gn true true ((WS.new.put tl (↑40:Int)).put fl (↑24:Int)).out)) off fd fu).length≤(100000:Nat),AtQ L.length (wrQ Q (↑L.length:Int) (hpI i gn) (okL (pcI ep gn true true ((WS.new.put tl (↑40:Int)).put fl (↑24:Int)).out)) off fd fu),Value.int IntKind.i64 (flFu (↑L.length:Int) (wrOff (↑L.length:Int) (hpI i gn) (↑(okL (pcI ep gn true true ((WS.new.put tl (↑40:Int)).put fl (↑24:Int)).out)).length:Int) off fd fu) fd (wrFu (↑L.length:Int) (hpI i gn) (↑(okL (pcI ep gn true true ((WS.new.put tl (↑40:Int)).put fl (↑24:Int)).out)).length:Int) off fd fu))=Value.int IntKind.i64 (svS (DS.mk L Q fu fd off) i ep gn tl fl).fu,Value.bool fd=Value.bool (svS (DS.mk L Q fu fd off) i ep gn tl fl).fd,Value.bool (flOff (↑L.length:Int) (wrOff (↑L.length:Int) (hpI i gn) (↑(okL (pcI ep gn true true ((WS.new.put tl (↑40:Int)).put fl (↑24:Int)).out)).length:Int) off fd fu) fd (wrFu (↑L.length:Int) (hpI i gn) (↑(okL (pcI ep gn true true ((WS.new.put tl (↑40:Int)).put fl (↑24:Int)).out)).length:Int) off fd fu))=Value.bool (svS (DS.mk L Q fu fd off) i ep gn tl fl).off,Th.ext (Dk.flat (FL.secs (flL L (wrQ Q (↑L.length:Int) (hpI i gn) (okL (pcI ep gn true true ((WS.new.put tl (↑40:Int)).put fl (↑24:Int)).out)) off fd fu) (flE (↑L.length:Int) (wrOff (↑L.length:Int) (hpI i gn) (↑(okL (pcI ep gn true true ((WS.new.put tl (↑40:Int)).put fl (↑24:Int)).out)).length:Int) off fd fu) fd (wrFu (↑L.length:Int) (hpI i gn) (↑(okL (pcI ep gn true true ((WS.new.put tl (↑40:Int)).put fl (↑24:Int)).out)).length:Int) off fd fu)))))=Th.ext (Dk.flat (FL.secs (svS (DS.mk L Q fu fd off) i ep gn tl fl).1)),Th.ext (Dk.flat (FL.pens (flP (wrQ Q (↑L.length:Int) (hpI i gn) (okL (pcI ep gn true true ((WS.new.put tl (↑40:Int)).put fl (↑24:Int)).out)) off fd fu) (flE (↑L.length:Int) (wrOff (↑L.length:Int) (hpI i gn) (↑(okL (pcI ep gn true true ((WS.new.put tl (↑40:Int)).put fl (↑24:Int)).out)).length:Int) off fd fu) fd (wrFu (↑L.length:Int) (hpI i gn) (↑(okL (pcI ep gn true true ((WS.new.put tl (↑40:Int)).put fl (↑24:Int)).out)).length:Int) off fd fu)))))=Th.ext (Dk.flat (FL.pens (svS (DS.mk L Q fu fd off) i ep gn tl fl).2)),Value.int IntKind.i64 (flE (↑L.length:Int) (wrOff (↑L.length:Int) (hpI i gn) (↑(okL (pcI ep gn true true ((WS.new.put tl (↑40:Int)).put fl (↑24:Int)).out)).length:Int) off fd fu) fd (wrFu (↑L.length:Int) (hpI i gn) (↑(okL (pcI ep gn true true ((WS.new.put tl (↑40:Int)).put fl (↑24:Int)).out)).length:Int) off fd fu))=Value.int IntKind.i64 (svE (DS.mk L Q fu fd off) i ep gn tl fl)],by kernel_rfl,(by refine mcons ?_ (mcons ?_ (mcons ?_ (mcons ?_ (mcons ?_ (mcons ?_ (mcons ?_ (mcons ?_ (mcons ?_ (mcons ?_ (mcons ?_ (mcons ?_ (mcons ?_ (mcons ?_ (mcons ?_ (mcons ?_ (mcons ?_ (mcons ?_ mnil)))))))))))))))))<;>first|rfl|exact h0|exact h1|exact h2|exact h3|exact h4|exact h5|exact h6|exact h7|exact h8|exact h9|exact h10|exact h11|trivial|(rw [h10];rfl)|(rw [h10])|(rw [h11];rfl)|(rw [h11]))⟩
end Go.Proofs.Ytonomiljclemnaa
set_option linter.unusedVariables false
set_option linter.unusedSimpArgs false
namespace Go.Proofs.Ytonomiljclemnaa
open Go.RowKit
def C_save:Ctr Td:=fun us sub=>match us,sub with
 |[.one (.ptr 0 0),.one (.v (.int .i64 i)),.one (.v (.int .u64 ep)),.agg [.v (.int .u64 gn),.v (.int .u64 tl),.v (.int .u64 fl)]],[⟨.bx [.obj 1,.obj 2,.v (.int .i64 fu),.v (.bool fd),.v (.bool off)],true⟩,⟨.us (.ext (.flat (.secs L))),true⟩,⟨.us (.ext (.flat (.pens Q))),true⟩]=>some ([0≤ep∧0≤gn,0≤tl∧tl<18446744073709551616,0≤fl∧fl<18446744073709551616,Q.length+1≤100000,WidQ (svT (⟨L,Q,fu,fd,off⟩:DS) i ep gn tl fl).Q,AtQ L.length (svT (⟨L,Q,fu,fd,off⟩:DS) i ep gn tl fl).Q],svV (.int .i64 (svE (⟨L,Q,fu,fd,off⟩:DS) i ep gn tl fl)),[⟨.bx [.obj 1,.obj 3,.v (.int .i64 (svS (⟨L,Q,fu,fd,off⟩:DS) i ep gn tl fl).fu),.v (.bool (svS (⟨L,Q,fu,fd,off⟩:DS) i ep gn tl fl).fd),.v (.bool (svS (⟨L,Q,fu,fd,off⟩:DS) i ep gn tl fl).off)],true⟩,⟨.us (.ext (.flat (.secs (svS (⟨L,Q,fu,fd,off⟩:DS) i ep gn tl fl).L))),true⟩,⟨.dead,true⟩,⟨.us (.ext (.flat (.pens (svS (⟨L,Q,fu,fd,off⟩:DS) i ep gn tl fl).Q))),true⟩])
 |_,_=>none
set_option maxHeartbeats 2000000 in
set_option maxRecDepth 100000 in
theorem C_save_ok:CtrOk Try.prog Id' 36 C_save:=by
 intro us sub ps x sm h hp w e vs hM ha
 unfold C_save at h
 split at h
 ·rename_i i ep gn tl fl fu fd off L Q
  simp only [Option.some.injEq,Prod.mk.injEq] at h
  obtain ⟨rfl,rfl,rfl⟩:=h
  have a0:0≤ep∧0≤gn:=hp _ (by simp)
  have a1:0≤tl∧tl<18446744073709551616:=hp _ (by simp)
  have a2:0≤fl∧fl<18446744073709551616:=hp _ (by simp)
  have a3:Q.length+1≤100000:=hp _ (by simp)
  have a4:WidQ (svT (⟨L,Q,fu,fd,off⟩:DS) i ep gn tl fl).Q:=hp _ (by simp)
  have a5:AtQ L.length (svT (⟨L,Q,fu,fd,off⟩:DS) i ep gn tl fl).Q:=hp _ (by simp)
  cases h0:(hwI (L.length:Int) i != 0) with
  |true=>
   have hk:svK (L.length:Int) i ep gn tl fl=hwI (L.length:Int) i:=by unfold svK;rw [h0];rfl
   have hk1:(svK (L.length:Int) i ep gn tl fl != 0)=true:=by rw [hk];exact h0
   have e1:(svS (⟨L,Q,fu,fd,off⟩:DS) i ep gn tl fl)=(⟨L,Q,fu,fd,off⟩:DS):=by show (bif (svK (L.length:Int) i ep gn tl fl != 0) then _ else _)=_;rw [hk1];rfl
   have e2:svE (⟨L,Q,fu,fd,off⟩:DS) i ep gn tl fl=hwI (L.length:Int) i:=by show (bif (svK (L.length:Int) i ep gn tl fl != 0) then _ else _)=_;rw [hk1];exact hk
   exact ctr_way (I:=Id') (fun (W0:World) (G:Nat→Prop)=>SyOk.mk2 Try.mixed dkHo_ok (FnsR.cons (R_hwrong) (FnsR.cons (F_new_ok (J:=dkI) (hx:=hardDk)) (FnsR.cons (F_put_ok (J:=dkI) (hx:=hardDk)) (FnsR.cons (F_done_ok (J:=dkI) (hx:=hardDk)) (FnsR.cons (R_seal) (FnsR.cons (R_hplace) (FnsR.cons (R_write) (FnsR.cons (R_flush) (FnsR.nil))))))))) EqsOk.nil) rfl Try.func36 (by kernel_rfl) (fun _ _=>LpsOk.nil _) (cs:=[true]) (by kernel_rfl) (save0_w0 L Q fu fd off i ep gn tl fl h0 a0 a1 a2 a3 a4 a5 e1 e2) w e vs hM ha
  |false=>
   cases h1:((svW tl fl).err != 0) with
   |true=>
    have hk:svK (L.length:Int) i ep gn tl fl=2:=by unfold svK;rw [h0,cond_false,h1];rfl
    have hk1:(svK (L.length:Int) i ep gn tl fl != 0)=true:=by rw [hk];rfl
    have e1:(svS (⟨L,Q,fu,fd,off⟩:DS) i ep gn tl fl)=(⟨L,Q,fu,fd,off⟩:DS):=by show (bif (svK (L.length:Int) i ep gn tl fl != 0) then _ else _)=_;rw [hk1];rfl
    have e2:svE (⟨L,Q,fu,fd,off⟩:DS) i ep gn tl fl=2:=by show (bif (svK (L.length:Int) i ep gn tl fl != 0) then _ else _)=_;rw [hk1];exact hk
    exact ctr_way (I:=Id') (fun (W0:World) (G:Nat→Prop)=>SyOk.mk2 Try.mixed dkHo_ok (FnsR.cons (R_hwrong) (FnsR.cons (F_new_ok (J:=dkI) (hx:=hardDk)) (FnsR.cons (F_put_ok (J:=dkI) (hx:=hardDk)) (FnsR.cons (F_done_ok (J:=dkI) (hx:=hardDk)) (FnsR.cons (R_seal) (FnsR.cons (R_hplace) (FnsR.cons (R_write) (FnsR.cons (R_flush) (FnsR.nil))))))))) EqsOk.nil) rfl Try.func36 (by kernel_rfl) (fun _ _=>LpsOk.nil _) (cs:=[false,true]) (by kernel_rfl) (save1_w0 L Q fu fd off i ep gn tl fl h0 h1 a0 a1 a2 a3 a4 a5 e1 e2) w e vs hM ha
   |false=>
    cases h2:((okN (svP ep gn tl fl):Int) != 0) with
    |true=>
     have hk:svK (L.length:Int) i ep gn tl fl=2:=by unfold svK;rw [h0,cond_false,h1,cond_false,h2];rfl
     have hk1:(svK (L.length:Int) i ep gn tl fl != 0)=true:=by rw [hk];rfl
     have e1:(svS (⟨L,Q,fu,fd,off⟩:DS) i ep gn tl fl)=(⟨L,Q,fu,fd,off⟩:DS):=by show (bif (svK (L.length:Int) i ep gn tl fl != 0) then _ else _)=_;rw [hk1];rfl
     have e2:svE (⟨L,Q,fu,fd,off⟩:DS) i ep gn tl fl=2:=by show (bif (svK (L.length:Int) i ep gn tl fl != 0) then _ else _)=_;rw [hk1];exact hk
     exact ctr_way (I:=Id') (fun (W0:World) (G:Nat→Prop)=>SyOk.mk2 Try.mixed dkHo_ok (FnsR.cons (R_hwrong) (FnsR.cons (F_new_ok (J:=dkI) (hx:=hardDk)) (FnsR.cons (F_put_ok (J:=dkI) (hx:=hardDk)) (FnsR.cons (F_done_ok (J:=dkI) (hx:=hardDk)) (FnsR.cons (R_seal) (FnsR.cons (R_hplace) (FnsR.cons (R_write) (FnsR.cons (R_flush) (FnsR.nil))))))))) EqsOk.nil) rfl Try.func36 (by kernel_rfl) (fun _ _=>LpsOk.nil _) (cs:=[false,false,true]) (by kernel_rfl) (save2_w0 L Q fu fd off i ep gn tl fl h0 h1 h2 a0 a1 a2 a3 a4 a5 e1 e2) w e vs hM ha
    |false=>
     cases h3:(svX (⟨L,Q,fu,fd,off⟩:DS) i ep gn tl fl != 0) with
     |true=>
      have hk1:(svK (L.length:Int) i ep gn tl fl != 0)=false:=by unfold svK;rw [h0,cond_false,h1,cond_false,h2];rfl
      have e1:(svS (⟨L,Q,fu,fd,off⟩:DS) i ep gn tl fl)=(svT (⟨L,Q,fu,fd,off⟩:DS) i ep gn tl fl):=by show (bif (svK (L.length:Int) i ep gn tl fl != 0) then _ else (bif (svX (⟨L,Q,fu,fd,off⟩:DS) i ep gn tl fl != 0) then _ else _))=_;rw [hk1,h3];rfl
      have e2:svE (⟨L,Q,fu,fd,off⟩:DS) i ep gn tl fl=svX (⟨L,Q,fu,fd,off⟩:DS) i ep gn tl fl:=by show (bif (svK (L.length:Int) i ep gn tl fl != 0) then _ else (bif (svX (⟨L,Q,fu,fd,off⟩:DS) i ep gn tl fl != 0) then _ else _))=_;rw [hk1,h3];rfl
      exact ctr_way (I:=Id') (fun (W0:World) (G:Nat→Prop)=>SyOk.mk2 Try.mixed dkHo_ok (FnsR.cons (R_hwrong) (FnsR.cons (F_new_ok (J:=dkI) (hx:=hardDk)) (FnsR.cons (F_put_ok (J:=dkI) (hx:=hardDk)) (FnsR.cons (F_done_ok (J:=dkI) (hx:=hardDk)) (FnsR.cons (R_seal) (FnsR.cons (R_hplace) (FnsR.cons (R_write) (FnsR.cons (R_flush) (FnsR.nil))))))))) EqsOk.nil) rfl Try.func36 (by kernel_rfl) (fun _ _=>LpsOk.nil _) (cs:=[false,false,false,true]) (by kernel_rfl) (save3_w0 L Q fu fd off i ep gn tl fl h0 h1 h2 h3 a0 a1 a2 a3 a4 a5 e1 e2) w e vs hM ha
     |false=>
      have hk1:(svK (L.length:Int) i ep gn tl fl != 0)=false:=by unfold svK;rw [h0,cond_false,h1,cond_false,h2];rfl
      have e1:(svS (⟨L,Q,fu,fd,off⟩:DS) i ep gn tl fl)=(flS L.length (svT (⟨L,Q,fu,fd,off⟩:DS) i ep gn tl fl)):=by show (bif (svK (L.length:Int) i ep gn tl fl != 0) then _ else (bif (svX (⟨L,Q,fu,fd,off⟩:DS) i ep gn tl fl != 0) then _ else _))=_;rw [hk1,h3];rfl
      have e2:svE (⟨L,Q,fu,fd,off⟩:DS) i ep gn tl fl=flE (L.length:Int) (svT (⟨L,Q,fu,fd,off⟩:DS) i ep gn tl fl).off (svT (⟨L,Q,fu,fd,off⟩:DS) i ep gn tl fl).fd (svT (⟨L,Q,fu,fd,off⟩:DS) i ep gn tl fl).fu:=by show (bif (svK (L.length:Int) i ep gn tl fl != 0) then _ else (bif (svX (⟨L,Q,fu,fd,off⟩:DS) i ep gn tl fl != 0) then _ else _))=_;rw [hk1,h3];rfl
      exact ctr_way (I:=Id') (fun (W0:World) (G:Nat→Prop)=>SyOk.mk2 Try.mixed dkHo_ok (FnsR.cons (R_hwrong) (FnsR.cons (F_new_ok (J:=dkI) (hx:=hardDk)) (FnsR.cons (F_put_ok (J:=dkI) (hx:=hardDk)) (FnsR.cons (F_done_ok (J:=dkI) (hx:=hardDk)) (FnsR.cons (R_seal) (FnsR.cons (R_hplace) (FnsR.cons (R_write) (FnsR.cons (R_flush) (FnsR.nil))))))))) EqsOk.nil) rfl Try.func36 (by kernel_rfl) (fun _ _=>LpsOk.nil _) (cs:=[false,false,false,false]) (by kernel_rfl) (save4_w0 L Q fu fd off i ep gn tl fl h0 h1 h2 h3 a0 a1 a2 a3 a4 a5 e1 e2) w e vs hM ha
 ·cases h
end Go.Proofs.Ytonomiljclemnaa
set_option linter.unusedVariables false
set_option linter.unusedSimpArgs false
namespace Go.Proofs.Ytonomiljclemnaa
open Go.RowKit
def hrT (a x:Int) (b:List UInt8):Bool:=(secNL b:Int) != 0||!(secP b).fi||!(secP b).la||hpI a ((secP b).ct:Int) != x
def hrR (b:List UInt8):RS:=((RS.new (secP b).d).get 40).get 24
def hrW (b:List UInt8):Bool:=endI (hrR b).l (hrR b).at' (hrR b).err != 0
def hrB (a x:Int) (b:List UInt8):Bool:=bif hrT a x b then false else !hrW b
def hrG (a x:Int) (b:List UInt8):Int:=bif hrB a x b then ((secP b).ct:Int) else 0
def hrL (a x:Int) (b:List UInt8):Int:=bif hrB a x b then ((RS.new (secP b).d).num 40:Int) else 0
def hrF (a x:Int) (b:List UInt8):Int:=bif hrB a x b then (((RS.new (secP b).d).get 40).num 24:Int) else 0
theorem secP_len (b:List UInt8):(secP b).d.length≤100000:=by
 unfold secP
 split
 ·show ((b.drop 10).take (b.getD 9 0).toNat).length≤_
  have:=(b.getD 9 0).toNat_lt
  rw [List.length_take];omega
 ·exact Nat.zero_le _
set_option maxRecDepth 100000 in
theorem hread_w0 (L:List (List UInt8)) (Q:List (Int×List UInt8)) (fu:Int) (fd off:Bool) (a i:Int) (h0:hrT a (IntKind.i64.wrap (a+i)) (isD L Q (IntKind.i64.wrap (a+i)))=true) (h1:WidL L) (h2:WidQ Q) (h3:0≤(IntKind.i64.wrap (a+i))∧(IntKind.i64.wrap (a+i)).toNat<L.length):∃ qs,wayO Id' ([⟨.bx [.obj 1,.obj 2,.v (.int .i64 fu),.v (.bool fd),.v (.bool off)],true⟩,⟨.us (.ext (.flat (.secs L))),true⟩,⟨.us (.ext (.flat (.pens Q))),true⟩]:Mem Td).length [⟨.bx [.obj 1,.obj 2,.v (.int .i64 fu),.v (.bool fd),.v (.bool off)],true⟩,⟨.us (.ext (.flat (.secs L))),true⟩,⟨.us (.ext (.flat (.pens Q))),true⟩] (.tup [.agg [.v (.int .u64 (hrG a (IntKind.i64.wrap (a+i)) (isD L Q (IntKind.i64.wrap (a+i))))),.v (.int .u64 (hrL a (IntKind.i64.wrap (a+i)) (isD L Q (IntKind.i64.wrap (a+i))))),.v (.int .u64 (hrF a (IntKind.i64.wrap (a+i)) (isD L Q (IntKind.i64.wrap (a+i)))))],.one (.v (.bool (hrB a (IntKind.i64.wrap (a+i)) (isD L Q (IntKind.i64.wrap (a+i))))))]) ((runFn (⟨Try.prog,[(17,ctrF Id' C_readG hardD),(54,ctrF Id' C_unseal hardD),(51,ctrV C_hplace hardD),(F_open (hx:=hardDk):Nat×Fn2 Td),(F_get (hx:=hardDk):Nat×Fn2 Td),(F_rend:Nat×Fn2 Td)],[],dkHo,Id'.one,60⟩:Sy Td) [] Try.f46 [.one (.ptr 0 0),.one (.v (.int .i64 a)),.one (.v (.int .i64 i))] [⟨.bx [.obj 1,.obj 2,.v (.int .i64 fu),.v (.bool fd),.v (.bool off)],true⟩,⟨.us (.ext (.flat (.secs L))),true⟩,⟨.us (.ext (.flat (.pens Q))),true⟩]).al [true])=some qs∧∀ q∈qs,q:=
 ⟨[WidL L,(∀ (q:Int×List UInt8),q∈Q→q.snd.length=(128:Nat))∧Q.length≤(100000:Nat),(0:Int)≤IntKind.i64.wrap (a+i)∧(IntKind.i64.wrap (a+i)).toNat<L.length,(En.mk (Ob.us (Th.bal (isQ (L.getD (IntKind.i64.wrap (a+i)).toNat []) Q (IntKind.i64.wrap (a+i)) Q.length))) true:En Td)=En.mk (Ob.us (Th.bal (isQ (L.getD (IntKind.i64.wrap (a+i)).toNat []) Q (IntKind.i64.wrap (a+i)) Q.length))) true,((↑(secNL (isD L Q (IntKind.i64.wrap (a+i)))):Int) != (0:Int)||!(secP (isD L Q (IntKind.i64.wrap (a+i)))).fi||!(secP (isD L Q (IntKind.i64.wrap (a+i)))).la||hpI a (↑(secP (isD L Q (IntKind.i64.wrap (a+i)))).ct:Int) != IntKind.i64.wrap (a+i))=true,Value.int IntKind.i64 fu=Value.int IntKind.i64 fu,Value.bool fd=Value.bool fd,Value.bool off=Value.bool off,Th.ext (Dk.flat (FL.secs L))=Th.ext (Dk.flat (FL.secs L)),Th.ext (Dk.flat (FL.pens Q))=Th.ext (Dk.flat (FL.pens Q)),Value.int IntKind.u64 (Int.ofNat 0)=Value.int IntKind.u64 (hrG a (IntKind.i64.wrap (a+i)) (isD L Q (IntKind.i64.wrap (a+i)))),Value.int IntKind.u64 (Int.ofNat 0)=Value.int IntKind.u64 (hrL a (IntKind.i64.wrap (a+i)) (isD L Q (IntKind.i64.wrap (a+i)))),Value.int IntKind.u64 (Int.ofNat 0)=Value.int IntKind.u64 (hrF a (IntKind.i64.wrap (a+i)) (isD L Q (IntKind.i64.wrap (a+i)))),Value.bool false=Value.bool (hrB a (IntKind.i64.wrap (a+i)) (isD L Q (IntKind.i64.wrap (a+i))))],by kernel_rfl,(by refine mcons ?_ (mcons ?_ (mcons ?_ (mcons ?_ (mcons ?_ (mcons ?_ (mcons ?_ (mcons ?_ (mcons ?_ (mcons ?_ (mcons ?_ (mcons ?_ (mcons ?_ (mcons ?_ mnil)))))))))))))<;>first|rfl|exact h0|exact h1|exact h2|exact h3|trivial|(exact secP_len _)|(simp only [hrG,hrB,h0,h1,cond_true,cond_false,Bool.not_true,Bool.not_false];done)|(simp only [hrG,hrB,h0,h1,cond_true,cond_false,Bool.not_true,Bool.not_false];rfl)|(simp only [hrL,hrB,h0,h1,cond_true,cond_false,Bool.not_true,Bool.not_false];done)|(simp only [hrL,hrB,h0,h1,cond_true,cond_false,Bool.not_true,Bool.not_false];rfl)|(simp only [hrF,hrB,h0,h1,cond_true,cond_false,Bool.not_true,Bool.not_false];done)|(simp only [hrF,hrB,h0,h1,cond_true,cond_false,Bool.not_true,Bool.not_false];rfl)|(simp only [hrB,hrB,h0,h1,cond_true,cond_false,Bool.not_true,Bool.not_false];done)|(simp only [hrB,hrB,h0,h1,cond_true,cond_false,Bool.not_true,Bool.not_false];rfl)|(simp only [hrG,hrB,h0,cond_true,cond_false,Bool.not_true,Bool.not_false];done)|(simp only [hrG,hrB,h0,cond_true,cond_false,Bool.not_true,Bool.not_false];rfl)|(simp only [hrL,hrB,h0,cond_true,cond_false,Bool.not_true,Bool.not_false];done)|(simp only [hrL,hrB,h0,cond_true,cond_false,Bool.not_true,Bool.not_false];rfl)|(simp only [hrF,hrB,h0,cond_true,cond_false,Bool.not_true,Bool.not_false];done)|(simp only [hrF,hrB,h0,cond_true,cond_false,Bool.not_true,Bool.not_false];rfl)|(simp only [hrB,hrB,h0,cond_true,cond_false,Bool.not_true,Bool.not_false];done)|(simp only [hrB,hrB,h0,cond_true,cond_false,Bool.not_true,Bool.not_false];rfl))⟩
set_option maxRecDepth 100000 in
theorem hread_w1 (L:List (List UInt8)) (Q:List (Int×List UInt8)) (fu:Int) (fd off:Bool) (a i:Int) (h0:hrT a (IntKind.i64.wrap (a+i)) (isD L Q (IntKind.i64.wrap (a+i)))=false) (h1:hrW (isD L Q (IntKind.i64.wrap (a+i)))=true) (h2:WidL L) (h3:WidQ Q) (h4:0≤(IntKind.i64.wrap (a+i))∧(IntKind.i64.wrap (a+i)).toNat<L.length):∃ qs,wayO Id' ([⟨.bx [.obj 1,.obj 2,.v (.int .i64 fu),.v (.bool fd),.v (.bool off)],true⟩,⟨.us (.ext (.flat (.secs L))),true⟩,⟨.us (.ext (.flat (.pens Q))),true⟩]:Mem Td).length [⟨.bx [.obj 1,.obj 2,.v (.int .i64 fu),.v (.bool fd),.v (.bool off)],true⟩,⟨.us (.ext (.flat (.secs L))),true⟩,⟨.us (.ext (.flat (.pens Q))),true⟩] (.tup [.agg [.v (.int .u64 (hrG a (IntKind.i64.wrap (a+i)) (isD L Q (IntKind.i64.wrap (a+i))))),.v (.int .u64 (hrL a (IntKind.i64.wrap (a+i)) (isD L Q (IntKind.i64.wrap (a+i))))),.v (.int .u64 (hrF a (IntKind.i64.wrap (a+i)) (isD L Q (IntKind.i64.wrap (a+i)))))],.one (.v (.bool (hrB a (IntKind.i64.wrap (a+i)) (isD L Q (IntKind.i64.wrap (a+i))))))]) ((runFn (⟨Try.prog,[(17,ctrF Id' C_readG hardD),(54,ctrF Id' C_unseal hardD),(51,ctrV C_hplace hardD),(F_open (hx:=hardDk):Nat×Fn2 Td),(F_get (hx:=hardDk):Nat×Fn2 Td),(F_rend:Nat×Fn2 Td)],[],dkHo,Id'.one,60⟩:Sy Td) [] Try.f46 [.one (.ptr 0 0),.one (.v (.int .i64 a)),.one (.v (.int .i64 i))] [⟨.bx [.obj 1,.obj 2,.v (.int .i64 fu),.v (.bool fd),.v (.bool off)],true⟩,⟨.us (.ext (.flat (.secs L))),true⟩,⟨.us (.ext (.flat (.pens Q))),true⟩]).al [false,true])=some qs∧∀ q∈qs,q:=
 ⟨[WidL L,(∀ (q:Int×List UInt8),q∈Q→q.snd.length=(128:Nat))∧Q.length≤(100000:Nat),(0:Int)≤IntKind.i64.wrap (a+i)∧(IntKind.i64.wrap (a+i)).toNat<L.length,(En.mk (Ob.us (Th.bal (isQ (L.getD (IntKind.i64.wrap (a+i)).toNat []) Q (IntKind.i64.wrap (a+i)) Q.length))) true:En Td)=En.mk (Ob.us (Th.bal (isQ (L.getD (IntKind.i64.wrap (a+i)).toNat []) Q (IntKind.i64.wrap (a+i)) Q.length))) true,((↑(secNL (isD L Q (IntKind.i64.wrap (a+i)))):Int) != (0:Int)||!(secP (isD L Q (IntKind.i64.wrap (a+i)))).fi||!(secP (isD L Q (IntKind.i64.wrap (a+i)))).la||hpI a (↑(secP (isD L Q (IntKind.i64.wrap (a+i)))).ct:Int) != IntKind.i64.wrap (a+i))=false,(secP (isD L Q (IntKind.i64.wrap (a+i)))).d.length≤(100000:Nat),(endI (((RS.new (secP (isD L Q (IntKind.i64.wrap (a+i)))).d).get (40:Int)).get (24:Int)).l (((RS.new (secP (isD L Q (IntKind.i64.wrap (a+i)))).d).get (40:Int)).get (24:Int)).at' (((RS.new (secP (isD L Q (IntKind.i64.wrap (a+i)))).d).get (40:Int)).get (24:Int)).err != (0:Int))=true,Value.int IntKind.i64 fu=Value.int IntKind.i64 fu,Value.bool fd=Value.bool fd,Value.bool off=Value.bool off,Th.ext (Dk.flat (FL.secs L))=Th.ext (Dk.flat (FL.secs L)),Th.ext (Dk.flat (FL.pens Q))=Th.ext (Dk.flat (FL.pens Q)),Value.int IntKind.u64 (Int.ofNat 0)=Value.int IntKind.u64 (hrG a (IntKind.i64.wrap (a+i)) (isD L Q (IntKind.i64.wrap (a+i)))),Value.int IntKind.u64 (Int.ofNat 0)=Value.int IntKind.u64 (hrL a (IntKind.i64.wrap (a+i)) (isD L Q (IntKind.i64.wrap (a+i)))),Value.int IntKind.u64 (Int.ofNat 0)=Value.int IntKind.u64 (hrF a (IntKind.i64.wrap (a+i)) (isD L Q (IntKind.i64.wrap (a+i)))),Value.bool false=Value.bool (hrB a (IntKind.i64.wrap (a+i)) (isD L Q (IntKind.i64.wrap (a+i))))],by kernel_rfl,(by refine mcons ?_ (mcons ?_ (mcons ?_ (mcons ?_ (mcons ?_ (mcons ?_ (mcons ?_ (mcons ?_ (mcons ?_ (mcons ?_ (mcons ?_ (mcons ?_ (mcons ?_ (mcons ?_ (mcons ?_ (mcons ?_ mnil)))))))))))))))<;>first|rfl|exact h0|exact h1|exact h2|exact h3|exact h4|trivial|(exact secP_len _)|(simp only [hrG,hrB,h0,h1,cond_true,cond_false,Bool.not_true,Bool.not_false];done)|(simp only [hrG,hrB,h0,h1,cond_true,cond_false,Bool.not_true,Bool.not_false];rfl)|(simp only [hrL,hrB,h0,h1,cond_true,cond_false,Bool.not_true,Bool.not_false];done)|(simp only [hrL,hrB,h0,h1,cond_true,cond_false,Bool.not_true,Bool.not_false];rfl)|(simp only [hrF,hrB,h0,h1,cond_true,cond_false,Bool.not_true,Bool.not_false];done)|(simp only [hrF,hrB,h0,h1,cond_true,cond_false,Bool.not_true,Bool.not_false];rfl)|(simp only [hrB,hrB,h0,h1,cond_true,cond_false,Bool.not_true,Bool.not_false];done)|(simp only [hrB,hrB,h0,h1,cond_true,cond_false,Bool.not_true,Bool.not_false];rfl)|(simp only [hrG,hrB,h0,cond_true,cond_false,Bool.not_true,Bool.not_false];done)|(simp only [hrG,hrB,h0,cond_true,cond_false,Bool.not_true,Bool.not_false];rfl)|(simp only [hrL,hrB,h0,cond_true,cond_false,Bool.not_true,Bool.not_false];done)|(simp only [hrL,hrB,h0,cond_true,cond_false,Bool.not_true,Bool.not_false];rfl)|(simp only [hrF,hrB,h0,cond_true,cond_false,Bool.not_true,Bool.not_false];done)|(simp only [hrF,hrB,h0,cond_true,cond_false,Bool.not_true,Bool.not_false];rfl)|(simp only [hrB,hrB,h0,cond_true,cond_false,Bool.not_true,Bool.not_false];done)|(simp only [hrB,hrB,h0,cond_true,cond_false,Bool.not_true,Bool.not_false];rfl))⟩
set_option maxRecDepth 100000 in
theorem hread_w2 (L:List (List UInt8)) (Q:List (Int×List UInt8)) (fu:Int) (fd off:Bool) (a i:Int) (h0:hrT a (IntKind.i64.wrap (a+i)) (isD L Q (IntKind.i64.wrap (a+i)))=false) (h1:hrW (isD L Q (IntKind.i64.wrap (a+i)))=false) (h2:WidL L) (h3:WidQ Q) (h4:0≤(IntKind.i64.wrap (a+i))∧(IntKind.i64.wrap (a+i)).toNat<L.length):∃ qs,wayO Id' ([⟨.bx [.obj 1,.obj 2,.v (.int .i64 fu),.v (.bool fd),.v (.bool off)],true⟩,⟨.us (.ext (.flat (.secs L))),true⟩,⟨.us (.ext (.flat (.pens Q))),true⟩]:Mem Td).length [⟨.bx [.obj 1,.obj 2,.v (.int .i64 fu),.v (.bool fd),.v (.bool off)],true⟩,⟨.us (.ext (.flat (.secs L))),true⟩,⟨.us (.ext (.flat (.pens Q))),true⟩] (.tup [.agg [.v (.int .u64 (hrG a (IntKind.i64.wrap (a+i)) (isD L Q (IntKind.i64.wrap (a+i))))),.v (.int .u64 (hrL a (IntKind.i64.wrap (a+i)) (isD L Q (IntKind.i64.wrap (a+i))))),.v (.int .u64 (hrF a (IntKind.i64.wrap (a+i)) (isD L Q (IntKind.i64.wrap (a+i)))))],.one (.v (.bool (hrB a (IntKind.i64.wrap (a+i)) (isD L Q (IntKind.i64.wrap (a+i))))))]) ((runFn (⟨Try.prog,[(17,ctrF Id' C_readG hardD),(54,ctrF Id' C_unseal hardD),(51,ctrV C_hplace hardD),(F_open (hx:=hardDk):Nat×Fn2 Td),(F_get (hx:=hardDk):Nat×Fn2 Td),(F_rend:Nat×Fn2 Td)],[],dkHo,Id'.one,60⟩:Sy Td) [] Try.f46 [.one (.ptr 0 0),.one (.v (.int .i64 a)),.one (.v (.int .i64 i))] [⟨.bx [.obj 1,.obj 2,.v (.int .i64 fu),.v (.bool fd),.v (.bool off)],true⟩,⟨.us (.ext (.flat (.secs L))),true⟩,⟨.us (.ext (.flat (.pens Q))),true⟩]).al [false,false])=some qs∧∀ q∈qs,q:=
 ⟨[WidL L,(∀ (q:Int×List UInt8),q∈Q→q.snd.length=(128:Nat))∧Q.length≤(100000:Nat),(0:Int)≤IntKind.i64.wrap (a+i)∧(IntKind.i64.wrap (a+i)).toNat<L.length,(En.mk (Ob.us (Th.bal (isQ (L.getD (IntKind.i64.wrap (a+i)).toNat []) Q (IntKind.i64.wrap (a+i)) Q.length))) true:En Td)=En.mk (Ob.us (Th.bal (isQ (L.getD (IntKind.i64.wrap (a+i)).toNat []) Q (IntKind.i64.wrap (a+i)) Q.length))) true,((↑(secNL (isD L Q (IntKind.i64.wrap (a+i)))):Int) != (0:Int)||!(secP (isD L Q (IntKind.i64.wrap (a+i)))).fi||!(secP (isD L Q (IntKind.i64.wrap (a+i)))).la||hpI a (↑(secP (isD L Q (IntKind.i64.wrap (a+i)))).ct:Int) != IntKind.i64.wrap (a+i))=false,(secP (isD L Q (IntKind.i64.wrap (a+i)))).d.length≤(100000:Nat),(endI (((RS.new (secP (isD L Q (IntKind.i64.wrap (a+i)))).d).get (40:Int)).get (24:Int)).l (((RS.new (secP (isD L Q (IntKind.i64.wrap (a+i)))).d).get (40:Int)).get (24:Int)).at' (((RS.new (secP (isD L Q (IntKind.i64.wrap (a+i)))).d).get (40:Int)).get (24:Int)).err != (0:Int))=false,Value.int IntKind.i64 fu=Value.int IntKind.i64 fu,Value.bool fd=Value.bool fd,Value.bool off=Value.bool off,Th.ext (Dk.flat (FL.secs L))=Th.ext (Dk.flat (FL.secs L)),Th.ext (Dk.flat (FL.pens Q))=Th.ext (Dk.flat (FL.pens Q)),Value.int IntKind.u64 (↑(secP (isD L Q (IntKind.i64.wrap (a+i)))).ct:Int)=Value.int IntKind.u64 (hrG a (IntKind.i64.wrap (a+i)) (isD L Q (IntKind.i64.wrap (a+i)))),Value.int IntKind.u64 (↑((RS.new (secP (isD L Q (IntKind.i64.wrap (a+i)))).d).num (40:Int)):Int)=Value.int IntKind.u64 (hrL a (IntKind.i64.wrap (a+i)) (isD L Q (IntKind.i64.wrap (a+i)))),Value.int IntKind.u64 (↑(((RS.new (secP (isD L Q (IntKind.i64.wrap (a+i)))).d).get (40:Int)).num (24:Int)):Int)=Value.int IntKind.u64 (hrF a (IntKind.i64.wrap (a+i)) (isD L Q (IntKind.i64.wrap (a+i)))),Value.bool true=Value.bool (hrB a (IntKind.i64.wrap (a+i)) (isD L Q (IntKind.i64.wrap (a+i))))],by kernel_rfl,(by refine mcons ?_ (mcons ?_ (mcons ?_ (mcons ?_ (mcons ?_ (mcons ?_ (mcons ?_ (mcons ?_ (mcons ?_ (mcons ?_ (mcons ?_ (mcons ?_ (mcons ?_ (mcons ?_ (mcons ?_ (mcons ?_ mnil)))))))))))))))<;>first|rfl|exact h0|exact h1|exact h2|exact h3|exact h4|trivial|(exact secP_len _)|(simp only [hrG,hrB,h0,h1,cond_true,cond_false,Bool.not_true,Bool.not_false];done)|(simp only [hrG,hrB,h0,h1,cond_true,cond_false,Bool.not_true,Bool.not_false];rfl)|(simp only [hrL,hrB,h0,h1,cond_true,cond_false,Bool.not_true,Bool.not_false];done)|(simp only [hrL,hrB,h0,h1,cond_true,cond_false,Bool.not_true,Bool.not_false];rfl)|(simp only [hrF,hrB,h0,h1,cond_true,cond_false,Bool.not_true,Bool.not_false];done)|(simp only [hrF,hrB,h0,h1,cond_true,cond_false,Bool.not_true,Bool.not_false];rfl)|(simp only [hrB,hrB,h0,h1,cond_true,cond_false,Bool.not_true,Bool.not_false];done)|(simp only [hrB,hrB,h0,h1,cond_true,cond_false,Bool.not_true,Bool.not_false];rfl)|(simp only [hrG,hrB,h0,cond_true,cond_false,Bool.not_true,Bool.not_false];done)|(simp only [hrG,hrB,h0,cond_true,cond_false,Bool.not_true,Bool.not_false];rfl)|(simp only [hrL,hrB,h0,cond_true,cond_false,Bool.not_true,Bool.not_false];done)|(simp only [hrL,hrB,h0,cond_true,cond_false,Bool.not_true,Bool.not_false];rfl)|(simp only [hrF,hrB,h0,cond_true,cond_false,Bool.not_true,Bool.not_false];done)|(simp only [hrF,hrB,h0,cond_true,cond_false,Bool.not_true,Bool.not_false];rfl)|(simp only [hrB,hrB,h0,cond_true,cond_false,Bool.not_true,Bool.not_false];done)|(simp only [hrB,hrB,h0,cond_true,cond_false,Bool.not_true,Bool.not_false];rfl))⟩
end Go.Proofs.Ytonomiljclemnaa
set_option linter.unusedVariables false
set_option linter.unusedSimpArgs false
namespace Go.Proofs.Ytonomiljclemnaa
open Go.RowKit
def C_hread:Ctr Td:=fun us sub=>match us,sub with
 |[.one (.ptr 0 0),.one (.v (.int .i64 a)),.one (.v (.int .i64 i))],[⟨.bx [.obj 1,.obj 2,.v (.int .i64 fu),.v (.bool fd),.v (.bool off)],true⟩,⟨.us (.ext (.flat (.secs L))),true⟩,⟨.us (.ext (.flat (.pens Q))),true⟩]=>some ([WidL L,WidQ Q,0≤(IntKind.i64.wrap (a+i))∧(IntKind.i64.wrap (a+i)).toNat<L.length],.tup [.agg [.v (.int .u64 (hrG a (IntKind.i64.wrap (a+i)) (isD L Q (IntKind.i64.wrap (a+i))))),.v (.int .u64 (hrL a (IntKind.i64.wrap (a+i)) (isD L Q (IntKind.i64.wrap (a+i))))),.v (.int .u64 (hrF a (IntKind.i64.wrap (a+i)) (isD L Q (IntKind.i64.wrap (a+i)))))],.one (.v (.bool (hrB a (IntKind.i64.wrap (a+i)) (isD L Q (IntKind.i64.wrap (a+i))))))],[⟨.bx [.obj 1,.obj 2,.v (.int .i64 fu),.v (.bool fd),.v (.bool off)],true⟩,⟨.us (.ext (.flat (.secs L))),true⟩,⟨.us (.ext (.flat (.pens Q))),true⟩])
 |_,_=>none
set_option maxRecDepth 100000 in
theorem C_hread_ok:CtrOk Try.prog Id' 46 C_hread:=by
 intro us sub ps x sm h hp w e vs hM ha
 unfold C_hread at h
 split at h
 ·rename_i a i fu fd off L Q
  simp only [Option.some.injEq,Prod.mk.injEq] at h
  obtain ⟨rfl,rfl,rfl⟩:=h
  have b0:WidL L:=hp _ (by simp)
  have b1:WidQ Q:=hp _ (by simp)
  have b2:0≤(IntKind.i64.wrap (a+i))∧(IntKind.i64.wrap (a+i)).toNat<L.length:=hp _ (by simp)
  cases h0:hrT a (IntKind.i64.wrap (a+i)) (isD L Q (IntKind.i64.wrap (a+i))) with
  |true=>exact ctr_way (I:=Id') (fun (W0:World) (G:Nat→Prop)=>SyOk.mk2 Try.mixed dkHo_ok (FnsR.cons (R_readG) (FnsR.cons (R_unseal) (FnsR.cons (R_hplace) (FnsR.cons (F_open_ok (J:=dkI) (hx:=hardDk)) (FnsR.cons (F_get_ok (J:=dkI) (hx:=hardDk)) (FnsR.cons (F_rend_ok (J:=dkI) (hx:=hardDk)) (FnsR.nil))))))) EqsOk.nil) rfl Try.func46 (by kernel_rfl) (fun _ _=>LpsOk.nil _) (cs:=[true]) (by kernel_rfl) (hread_w0 L Q fu fd off a i h0 b0 b1 b2) w e vs hM ha
  |false=>
   cases h1:hrW (isD L Q (IntKind.i64.wrap (a+i))) with
   |true=>exact ctr_way (I:=Id') (fun (W0:World) (G:Nat→Prop)=>SyOk.mk2 Try.mixed dkHo_ok (FnsR.cons (R_readG) (FnsR.cons (R_unseal) (FnsR.cons (R_hplace) (FnsR.cons (F_open_ok (J:=dkI) (hx:=hardDk)) (FnsR.cons (F_get_ok (J:=dkI) (hx:=hardDk)) (FnsR.cons (F_rend_ok (J:=dkI) (hx:=hardDk)) (FnsR.nil))))))) EqsOk.nil) rfl Try.func46 (by kernel_rfl) (fun _ _=>LpsOk.nil _) (cs:=[false,true]) (by kernel_rfl) (hread_w1 L Q fu fd off a i h0 h1 b0 b1 b2) w e vs hM ha
   |false=>exact ctr_way (I:=Id') (fun (W0:World) (G:Nat→Prop)=>SyOk.mk2 Try.mixed dkHo_ok (FnsR.cons (R_readG) (FnsR.cons (R_unseal) (FnsR.cons (R_hplace) (FnsR.cons (F_open_ok (J:=dkI) (hx:=hardDk)) (FnsR.cons (F_get_ok (J:=dkI) (hx:=hardDk)) (FnsR.cons (F_rend_ok (J:=dkI) (hx:=hardDk)) (FnsR.nil))))))) EqsOk.nil) rfl Try.func46 (by kernel_rfl) (fun _ _=>LpsOk.nil _) (cs:=[false,false]) (by kernel_rfl) (hread_w2 L Q fu fd off a i h0 h1 b0 b1 b2) w e vs hM ha
 ·cases h
theorem R_hread:RowOk Try.prog Id' hardD 46 (ctrF Id' C_hread hardD):=ctrF_ok Try.call46 C_hread_ok
end Go.Proofs.Ytonomiljclemnaa
set_option linter.unusedVariables false
set_option linter.unusedSimpArgs false
namespace Go.Proofs.Ytonomiljclemnaa
open Go.RowKit
def ldA (f:Int→Int→List UInt8→Int) (L:List (List UInt8)) (Q:List (Int×List UInt8)) (a:Int):Int:=f a (IntKind.i64.wrap (a+0)) (isD L Q (IntKind.i64.wrap (a+0)))
def ldZ (f:Int→Int→List UInt8→Int) (L:List (List UInt8)) (Q:List (Int×List UInt8)) (a:Int):Int:=f a (IntKind.i64.wrap (a+1)) (isD L Q (IntKind.i64.wrap (a+1)))
def ldP (L:List (List UInt8)) (Q:List (Int×List UInt8)) (a:Int):Bool:=hrB a (IntKind.i64.wrap (a+0)) (isD L Q (IntKind.i64.wrap (a+0)))
def ldQ (L:List (List UInt8)) (Q:List (Int×List UInt8)) (a:Int):Bool:=hrB a (IntKind.i64.wrap (a+1)) (isD L Q (IntKind.i64.wrap (a+1)))
def ldT (L:List (List UInt8)) (Q:List (Int×List UInt8)) (a:Int):Bool:=bif ldP L Q a then ldQ L Q a&&decide (ldZ hrG L Q a>ldA hrG L Q a) else ldQ L Q a&&true
def ldV (f:Int→Int→List UInt8→Int) (L:List (List UInt8)) (Q:List (Int×List UInt8)) (a:Int):Int:=bif hwI (L.length:Int) a != 0 then 0 else bif ldT L Q a then ldZ f L Q a else bif ldP L Q a then ldA f L Q a else 0
def ldB (L:List (List UInt8)) (Q:List (Int×List UInt8)) (a:Int):Bool:=bif hwI (L.length:Int) a != 0 then false else bif ldT L Q a then true else ldP L Q a
set_option maxRecDepth 100000 in
theorem load0_w0 (L:List (List UInt8)) (Q:List (Int×List UInt8)) (fu:Int) (fd off:Bool) (a:Int) (h0:(hwI (L.length:Int) a != 0)=true) (h1:ldV hrG L Q a=0) (h2:ldV hrL L Q a=0) (h3:ldV hrF L Q a=0) (h4:ldB L Q a=false):∃ qs,wayO Id' ([⟨.bx [.obj 1,.obj 2,.v (.int .i64 fu),.v (.bool fd),.v (.bool off)],true⟩,⟨.us (.ext (.flat (.secs L))),true⟩,⟨.us (.ext (.flat (.pens Q))),true⟩]:Mem Td).length [⟨.bx [.obj 1,.obj 2,.v (.int .i64 fu),.v (.bool fd),.v (.bool off)],true⟩,⟨.us (.ext (.flat (.secs L))),true⟩,⟨.us (.ext (.flat (.pens Q))),true⟩] (.tup [.agg [.v (.int .u64 (ldV hrG L Q a)),.v (.int .u64 (ldV hrL L Q a)),.v (.int .u64 (ldV hrF L Q a))],.one (.v (.bool (ldB L Q a))),.one (.v (.int .i64 (hwI (L.length:Int) a)))]) ((runFn (⟨Try.prog,[(45,ctrV C_hwrong hardD),(46,ctrF Id' C_hread hardD)],[],dkHo,Id'.one,60⟩:Sy Td) [] Try.f35 [.one (.ptr 0 0),.one (.v (.int .i64 a))] [⟨.bx [.obj 1,.obj 2,.v (.int .i64 fu),.v (.bool fd),.v (.bool off)],true⟩,⟨.us (.ext (.flat (.secs L))),true⟩,⟨.us (.ext (.flat (.pens Q))),true⟩]).al [true])=some qs∧∀ q∈qs,q:=
 ⟨[(hwI (↑L.length:Int) a != (0:Int))=true,Value.int IntKind.i64 fu=Value.int IntKind.i64 fu,Value.bool fd=Value.bool fd,Value.bool off=Value.bool off,Th.ext (Dk.flat (FL.secs L))=Th.ext (Dk.flat (FL.secs L)),Th.ext (Dk.flat (FL.pens Q))=Th.ext (Dk.flat (FL.pens Q)),Value.int IntKind.u64 (Int.ofNat 0)=Value.int IntKind.u64 (ldV hrG L Q a),Value.int IntKind.u64 (Int.ofNat 0)=Value.int IntKind.u64 (ldV hrL L Q a),Value.int IntKind.u64 (Int.ofNat 0)=Value.int IntKind.u64 (ldV hrF L Q a),Value.bool false=Value.bool (ldB L Q a),Value.int IntKind.i64 (hwI (↑L.length:Int) a)=Value.int IntKind.i64 (hwI (↑L.length:Int) a)],by kernel_rfl,(by refine mcons ?_ (mcons ?_ (mcons ?_ (mcons ?_ (mcons ?_ (mcons ?_ (mcons ?_ (mcons ?_ (mcons ?_ (mcons ?_ (mcons ?_ mnil))))))))))<;>first|rfl|exact h0|exact h1|exact h2|exact h3|exact h4|trivial|(rw [h1];rfl)|(rw [h1])|(rw [h2];rfl)|(rw [h2])|(rw [h3];rfl)|(rw [h3])|(rw [h4];rfl)|(rw [h4]))⟩
set_option maxRecDepth 100000 in
theorem load1_w0 (L:List (List UInt8)) (Q:List (Int×List UInt8)) (fu:Int) (fd off:Bool) (a:Int) (h0:(hwI (L.length:Int) a != 0)=false) (h1:(ldP L Q a&&true)=true) (h2:(ldQ L Q a&&decide (ldZ hrG L Q a>ldA hrG L Q a))=true) (h3:WidL L) (h4:WidQ Q) (h5:0≤(IntKind.i64.wrap (a+0))∧(IntKind.i64.wrap (a+0)).toNat<L.length) (h6:0≤(IntKind.i64.wrap (a+1))∧(IntKind.i64.wrap (a+1)).toNat<L.length) (h7:ldV hrG L Q a=ldZ hrG L Q a) (h8:ldV hrL L Q a=ldZ hrL L Q a) (h9:ldV hrF L Q a=ldZ hrF L Q a) (h10:ldB L Q a=true) (h11:hwI (L.length:Int) a=0):∃ qs,wayO Id' ([⟨.bx [.obj 1,.obj 2,.v (.int .i64 fu),.v (.bool fd),.v (.bool off)],true⟩,⟨.us (.ext (.flat (.secs L))),true⟩,⟨.us (.ext (.flat (.pens Q))),true⟩]:Mem Td).length [⟨.bx [.obj 1,.obj 2,.v (.int .i64 fu),.v (.bool fd),.v (.bool off)],true⟩,⟨.us (.ext (.flat (.secs L))),true⟩,⟨.us (.ext (.flat (.pens Q))),true⟩] (.tup [.agg [.v (.int .u64 (ldV hrG L Q a)),.v (.int .u64 (ldV hrL L Q a)),.v (.int .u64 (ldV hrF L Q a))],.one (.v (.bool (ldB L Q a))),.one (.v (.int .i64 (hwI (L.length:Int) a)))]) ((runFn (⟨Try.prog,[(45,ctrV C_hwrong hardD),(46,ctrF Id' C_hread hardD)],[],dkHo,Id'.one,60⟩:Sy Td) [] Try.f35 [.one (.ptr 0 0),.one (.v (.int .i64 a))] [⟨.bx [.obj 1,.obj 2,.v (.int .i64 fu),.v (.bool fd),.v (.bool off)],true⟩,⟨.us (.ext (.flat (.secs L))),true⟩,⟨.us (.ext (.flat (.pens Q))),true⟩]).al [false,true,true])=some qs∧∀ q∈qs,q:=
 ⟨[(hwI (↑L.length:Int) a != (0:Int))=false,WidL L,(∀ (q:Int×List UInt8),q∈Q→q.snd.length=(128:Nat))∧Q.length≤(100000:Nat),(0:Int)≤IntKind.i64.wrap (a+(0:Int))∧(IntKind.i64.wrap (a+(0:Int))).toNat<L.length,(hrB a (IntKind.i64.wrap (a+(0:Int))) (isD L Q (IntKind.i64.wrap (a+(0:Int))))&&true)=true,WidL L,(∀ (q:Int×List UInt8),q∈Q→q.snd.length=(128:Nat))∧Q.length≤(100000:Nat),(0:Int)≤IntKind.i64.wrap (a+Int.ofNat ((0:Nat)+(1:Nat)))∧(IntKind.i64.wrap (a+Int.ofNat ((0:Nat)+(1:Nat)))).toNat<L.length,(hrB a (IntKind.i64.wrap (a+Int.ofNat ((0:Nat)+(1:Nat)))) (isD L Q (IntKind.i64.wrap (a+Int.ofNat ((0:Nat)+(1:Nat)))))&&decide (hrG a (IntKind.i64.wrap (a+Int.ofNat ((0:Nat)+(1:Nat)))) (isD L Q (IntKind.i64.wrap (a+Int.ofNat ((0:Nat)+(1:Nat)))))>hrG a (IntKind.i64.wrap (a+(0:Int))) (isD L Q (IntKind.i64.wrap (a+(0:Int))))))=true,Value.int IntKind.i64 fu=Value.int IntKind.i64 fu,Value.bool fd=Value.bool fd,Value.bool off=Value.bool off,Th.ext (Dk.flat (FL.secs L))=Th.ext (Dk.flat (FL.secs L)),Th.ext (Dk.flat (FL.pens Q))=Th.ext (Dk.flat (FL.pens Q)),Value.int IntKind.u64 (hrG a (IntKind.i64.wrap (a+Int.ofNat ((0:Nat)+(1:Nat)))) (isD L Q (IntKind.i64.wrap (a+Int.ofNat ((0:Nat)+(1:Nat))))))=Value.int IntKind.u64 (ldV hrG L Q a),Value.int IntKind.u64 (hrL a (IntKind.i64.wrap (a+Int.ofNat ((0:Nat)+(1:Nat)))) (isD L Q (IntKind.i64.wrap (a+Int.ofNat ((0:Nat)+(1:Nat))))))=Value.int IntKind.u64 (ldV hrL L Q a),Value.int IntKind.u64 (hrF a (IntKind.i64.wrap (a+Int.ofNat ((0:Nat)+(1:Nat)))) (isD L Q (IntKind.i64.wrap (a+Int.ofNat ((0:Nat)+(1:Nat))))))=Value.int IntKind.u64 (ldV hrF L Q a),Value.bool true=Value.bool (ldB L Q a),Value.int IntKind.i64 (Int.ofNat 0)=Value.int IntKind.i64 (hwI (↑L.length:Int) a)],by kernel_rfl,(by refine mcons ?_ (mcons ?_ (mcons ?_ (mcons ?_ (mcons ?_ (mcons ?_ (mcons ?_ (mcons ?_ (mcons ?_ (mcons ?_ (mcons ?_ (mcons ?_ (mcons ?_ (mcons ?_ (mcons ?_ (mcons ?_ (mcons ?_ (mcons ?_ (mcons ?_ mnil))))))))))))))))))<;>first|rfl|exact h0|exact h1|exact h2|exact h3|exact h4|exact h5|exact h6|exact h7|exact h8|exact h9|exact h10|exact h11|trivial|(rw [h7];rfl)|(rw [h7])|(rw [h8];rfl)|(rw [h8])|(rw [h9];rfl)|(rw [h9])|(rw [h10];rfl)|(rw [h10])|(rw [h11];rfl)|(rw [h11]))⟩
set_option maxRecDepth 100000 in
theorem load2_w0 (L:List (List UInt8)) (Q:List (Int×List UInt8)) (fu:Int) (fd off:Bool) (a:Int) (h0:(hwI (L.length:Int) a != 0)=false) (h1:(ldP L Q a&&true)=true) (h2:(ldQ L Q a&&decide (ldZ hrG L Q a>ldA hrG L Q a))=false) (h3:WidL L) (h4:WidQ Q) (h5:0≤(IntKind.i64.wrap (a+0))∧(IntKind.i64.wrap (a+0)).toNat<L.length) (h6:0≤(IntKind.i64.wrap (a+1))∧(IntKind.i64.wrap (a+1)).toNat<L.length) (h7:ldV hrG L Q a=ldA hrG L Q a) (h8:ldV hrL L Q a=ldA hrL L Q a) (h9:ldV hrF L Q a=ldA hrF L Q a) (h10:ldB L Q a=true) (h11:hwI (L.length:Int) a=0):∃ qs,wayO Id' ([⟨.bx [.obj 1,.obj 2,.v (.int .i64 fu),.v (.bool fd),.v (.bool off)],true⟩,⟨.us (.ext (.flat (.secs L))),true⟩,⟨.us (.ext (.flat (.pens Q))),true⟩]:Mem Td).length [⟨.bx [.obj 1,.obj 2,.v (.int .i64 fu),.v (.bool fd),.v (.bool off)],true⟩,⟨.us (.ext (.flat (.secs L))),true⟩,⟨.us (.ext (.flat (.pens Q))),true⟩] (.tup [.agg [.v (.int .u64 (ldV hrG L Q a)),.v (.int .u64 (ldV hrL L Q a)),.v (.int .u64 (ldV hrF L Q a))],.one (.v (.bool (ldB L Q a))),.one (.v (.int .i64 (hwI (L.length:Int) a)))]) ((runFn (⟨Try.prog,[(45,ctrV C_hwrong hardD),(46,ctrF Id' C_hread hardD)],[],dkHo,Id'.one,60⟩:Sy Td) [] Try.f35 [.one (.ptr 0 0),.one (.v (.int .i64 a))] [⟨.bx [.obj 1,.obj 2,.v (.int .i64 fu),.v (.bool fd),.v (.bool off)],true⟩,⟨.us (.ext (.flat (.secs L))),true⟩,⟨.us (.ext (.flat (.pens Q))),true⟩]).al [false,true,false])=some qs∧∀ q∈qs,q:=
 ⟨[(hwI (↑L.length:Int) a != (0:Int))=false,WidL L,(∀ (q:Int×List UInt8),q∈Q→q.snd.length=(128:Nat))∧Q.length≤(100000:Nat),(0:Int)≤IntKind.i64.wrap (a+(0:Int))∧(IntKind.i64.wrap (a+(0:Int))).toNat<L.length,(hrB a (IntKind.i64.wrap (a+(0:Int))) (isD L Q (IntKind.i64.wrap (a+(0:Int))))&&true)=true,WidL L,(∀ (q:Int×List UInt8),q∈Q→q.snd.length=(128:Nat))∧Q.length≤(100000:Nat),(0:Int)≤IntKind.i64.wrap (a+Int.ofNat ((0:Nat)+(1:Nat)))∧(IntKind.i64.wrap (a+Int.ofNat ((0:Nat)+(1:Nat)))).toNat<L.length,(hrB a (IntKind.i64.wrap (a+Int.ofNat ((0:Nat)+(1:Nat)))) (isD L Q (IntKind.i64.wrap (a+Int.ofNat ((0:Nat)+(1:Nat)))))&&decide (hrG a (IntKind.i64.wrap (a+Int.ofNat ((0:Nat)+(1:Nat)))) (isD L Q (IntKind.i64.wrap (a+Int.ofNat ((0:Nat)+(1:Nat)))))>hrG a (IntKind.i64.wrap (a+(0:Int))) (isD L Q (IntKind.i64.wrap (a+(0:Int))))))=false,Value.int IntKind.i64 fu=Value.int IntKind.i64 fu,Value.bool fd=Value.bool fd,Value.bool off=Value.bool off,Th.ext (Dk.flat (FL.secs L))=Th.ext (Dk.flat (FL.secs L)),Th.ext (Dk.flat (FL.pens Q))=Th.ext (Dk.flat (FL.pens Q)),Value.int IntKind.u64 (hrG a (IntKind.i64.wrap (a+(0:Int))) (isD L Q (IntKind.i64.wrap (a+(0:Int)))))=Value.int IntKind.u64 (ldV hrG L Q a),Value.int IntKind.u64 (hrL a (IntKind.i64.wrap (a+(0:Int))) (isD L Q (IntKind.i64.wrap (a+(0:Int)))))=Value.int IntKind.u64 (ldV hrL L Q a),Value.int IntKind.u64 (hrF a (IntKind.i64.wrap (a+(0:Int))) (isD L Q (IntKind.i64.wrap (a+(0:Int)))))=Value.int IntKind.u64 (ldV hrF L Q a),Value.bool true=Value.bool (ldB L Q a),Value.int IntKind.i64 (Int.ofNat 0)=Value.int IntKind.i64 (hwI (↑L.length:Int) a)],by kernel_rfl,(by refine mcons ?_ (mcons ?_ (mcons ?_ (mcons ?_ (mcons ?_ (mcons ?_ (mcons ?_ (mcons ?_ (mcons ?_ (mcons ?_ (mcons ?_ (mcons ?_ (mcons ?_ (mcons ?_ (mcons ?_ (mcons ?_ (mcons ?_ (mcons ?_ (mcons ?_ mnil))))))))))))))))))<;>first|rfl|exact h0|exact h1|exact h2|exact h3|exact h4|exact h5|exact h6|exact h7|exact h8|exact h9|exact h10|exact h11|trivial|(rw [h7];rfl)|(rw [h7])|(rw [h8];rfl)|(rw [h8])|(rw [h9];rfl)|(rw [h9])|(rw [h10];rfl)|(rw [h10])|(rw [h11];rfl)|(rw [h11]))⟩
set_option maxRecDepth 100000 in
theorem load3_w0 (L:List (List UInt8)) (Q:List (Int×List UInt8)) (fu:Int) (fd off:Bool) (a:Int) (h0:(hwI (L.length:Int) a != 0)=false) (h1:(ldP L Q a&&true)=false) (h2:(ldQ L Q a&&true)=true) (h3:WidL L) (h4:WidQ Q) (h5:0≤(IntKind.i64.wrap (a+0))∧(IntKind.i64.wrap (a+0)).toNat<L.length) (h6:0≤(IntKind.i64.wrap (a+1))∧(IntKind.i64.wrap (a+1)).toNat<L.length) (h7:ldV hrG L Q a=ldZ hrG L Q a) (h8:ldV hrL L Q a=ldZ hrL L Q a) (h9:ldV hrF L Q a=ldZ hrF L Q a) (h10:ldB L Q a=true) (h11:hwI (L.length:Int) a=0):∃ qs,wayO Id' ([⟨.bx [.obj 1,.obj 2,.v (.int .i64 fu),.v (.bool fd),.v (.bool off)],true⟩,⟨.us (.ext (.flat (.secs L))),true⟩,⟨.us (.ext (.flat (.pens Q))),true⟩]:Mem Td).length [⟨.bx [.obj 1,.obj 2,.v (.int .i64 fu),.v (.bool fd),.v (.bool off)],true⟩,⟨.us (.ext (.flat (.secs L))),true⟩,⟨.us (.ext (.flat (.pens Q))),true⟩] (.tup [.agg [.v (.int .u64 (ldV hrG L Q a)),.v (.int .u64 (ldV hrL L Q a)),.v (.int .u64 (ldV hrF L Q a))],.one (.v (.bool (ldB L Q a))),.one (.v (.int .i64 (hwI (L.length:Int) a)))]) ((runFn (⟨Try.prog,[(45,ctrV C_hwrong hardD),(46,ctrF Id' C_hread hardD)],[],dkHo,Id'.one,60⟩:Sy Td) [] Try.f35 [.one (.ptr 0 0),.one (.v (.int .i64 a))] [⟨.bx [.obj 1,.obj 2,.v (.int .i64 fu),.v (.bool fd),.v (.bool off)],true⟩,⟨.us (.ext (.flat (.secs L))),true⟩,⟨.us (.ext (.flat (.pens Q))),true⟩]).al [false,false,true])=some qs∧∀ q∈qs,q:=
 ⟨[(hwI (↑L.length:Int) a != (0:Int))=false,WidL L,(∀ (q:Int×List UInt8),q∈Q→q.snd.length=(128:Nat))∧Q.length≤(100000:Nat),(0:Int)≤IntKind.i64.wrap (a+(0:Int))∧(IntKind.i64.wrap (a+(0:Int))).toNat<L.length,(hrB a (IntKind.i64.wrap (a+(0:Int))) (isD L Q (IntKind.i64.wrap (a+(0:Int))))&&true)=false,WidL L,(∀ (q:Int×List UInt8),q∈Q→q.snd.length=(128:Nat))∧Q.length≤(100000:Nat),(0:Int)≤IntKind.i64.wrap (a+Int.ofNat ((0:Nat)+(1:Nat)))∧(IntKind.i64.wrap (a+Int.ofNat ((0:Nat)+(1:Nat)))).toNat<L.length,(hrB a (IntKind.i64.wrap (a+Int.ofNat ((0:Nat)+(1:Nat)))) (isD L Q (IntKind.i64.wrap (a+Int.ofNat ((0:Nat)+(1:Nat)))))&&true)=true,Value.int IntKind.i64 fu=Value.int IntKind.i64 fu,Value.bool fd=Value.bool fd,Value.bool off=Value.bool off,Th.ext (Dk.flat (FL.secs L))=Th.ext (Dk.flat (FL.secs L)),Th.ext (Dk.flat (FL.pens Q))=Th.ext (Dk.flat (FL.pens Q)),Value.int IntKind.u64 (hrG a (IntKind.i64.wrap (a+Int.ofNat ((0:Nat)+(1:Nat)))) (isD L Q (IntKind.i64.wrap (a+Int.ofNat ((0:Nat)+(1:Nat))))))=Value.int IntKind.u64 (ldV hrG L Q a),Value.int IntKind.u64 (hrL a (IntKind.i64.wrap (a+Int.ofNat ((0:Nat)+(1:Nat)))) (isD L Q (IntKind.i64.wrap (a+Int.ofNat ((0:Nat)+(1:Nat))))))=Value.int IntKind.u64 (ldV hrL L Q a),Value.int IntKind.u64 (hrF a (IntKind.i64.wrap (a+Int.ofNat ((0:Nat)+(1:Nat)))) (isD L Q (IntKind.i64.wrap (a+Int.ofNat ((0:Nat)+(1:Nat))))))=Value.int IntKind.u64 (ldV hrF L Q a),Value.bool true=Value.bool (ldB L Q a),Value.int IntKind.i64 (Int.ofNat 0)=Value.int IntKind.i64 (hwI (↑L.length:Int) a)],by kernel_rfl,(by refine mcons ?_ (mcons ?_ (mcons ?_ (mcons ?_ (mcons ?_ (mcons ?_ (mcons ?_ (mcons ?_ (mcons ?_ (mcons ?_ (mcons ?_ (mcons ?_ (mcons ?_ (mcons ?_ (mcons ?_ (mcons ?_ (mcons ?_ (mcons ?_ (mcons ?_ mnil))))))))))))))))))<;>first|rfl|exact h0|exact h1|exact h2|exact h3|exact h4|exact h5|exact h6|exact h7|exact h8|exact h9|exact h10|exact h11|trivial|(rw [h7];rfl)|(rw [h7])|(rw [h8];rfl)|(rw [h8])|(rw [h9];rfl)|(rw [h9])|(rw [h10];rfl)|(rw [h10])|(rw [h11];rfl)|(rw [h11]))⟩
set_option maxRecDepth 100000 in
theorem load4_w0 (L:List (List UInt8)) (Q:List (Int×List UInt8)) (fu:Int) (fd off:Bool) (a:Int) (h0:(hwI (L.length:Int) a != 0)=false) (h1:(ldP L Q a&&true)=false) (h2:(ldQ L Q a&&true)=false) (h3:WidL L) (h4:WidQ Q) (h5:0≤(IntKind.i64.wrap (a+0))∧(IntKind.i64.wrap (a+0)).toNat<L.length) (h6:0≤(IntKind.i64.wrap (a+1))∧(IntKind.i64.wrap (a+1)).toNat<L.length) (h7:ldV hrG L Q a=0) (h8:ldV hrL L Q a=0) (h9:ldV hrF L Q a=0) (h10:ldB L Q a=false) (h11:hwI (L.length:Int) a=0):∃ qs,wayO Id' ([⟨.bx [.obj 1,.obj 2,.v (.int .i64 fu),.v (.bool fd),.v (.bool off)],true⟩,⟨.us (.ext (.flat (.secs L))),true⟩,⟨.us (.ext (.flat (.pens Q))),true⟩]:Mem Td).length [⟨.bx [.obj 1,.obj 2,.v (.int .i64 fu),.v (.bool fd),.v (.bool off)],true⟩,⟨.us (.ext (.flat (.secs L))),true⟩,⟨.us (.ext (.flat (.pens Q))),true⟩] (.tup [.agg [.v (.int .u64 (ldV hrG L Q a)),.v (.int .u64 (ldV hrL L Q a)),.v (.int .u64 (ldV hrF L Q a))],.one (.v (.bool (ldB L Q a))),.one (.v (.int .i64 (hwI (L.length:Int) a)))]) ((runFn (⟨Try.prog,[(45,ctrV C_hwrong hardD),(46,ctrF Id' C_hread hardD)],[],dkHo,Id'.one,60⟩:Sy Td) [] Try.f35 [.one (.ptr 0 0),.one (.v (.int .i64 a))] [⟨.bx [.obj 1,.obj 2,.v (.int .i64 fu),.v (.bool fd),.v (.bool off)],true⟩,⟨.us (.ext (.flat (.secs L))),true⟩,⟨.us (.ext (.flat (.pens Q))),true⟩]).al [false,false,false])=some qs∧∀ q∈qs,q:=
 ⟨[(hwI (↑L.length:Int) a != (0:Int))=false,WidL L,(∀ (q:Int×List UInt8),q∈Q→q.snd.length=(128:Nat))∧Q.length≤(100000:Nat),(0:Int)≤IntKind.i64.wrap (a+(0:Int))∧(IntKind.i64.wrap (a+(0:Int))).toNat<L.length,(hrB a (IntKind.i64.wrap (a+(0:Int))) (isD L Q (IntKind.i64.wrap (a+(0:Int))))&&true)=false,WidL L,(∀ (q:Int×List UInt8),q∈Q→q.snd.length=(128:Nat))∧Q.length≤(100000:Nat),(0:Int)≤IntKind.i64.wrap (a+Int.ofNat ((0:Nat)+(1:Nat)))∧(IntKind.i64.wrap (a+Int.ofNat ((0:Nat)+(1:Nat)))).toNat<L.length,(hrB a (IntKind.i64.wrap (a+Int.ofNat ((0:Nat)+(1:Nat)))) (isD L Q (IntKind.i64.wrap (a+Int.ofNat ((0:Nat)+(1:Nat)))))&&true)=false,Value.int IntKind.i64 fu=Value.int IntKind.i64 fu,Value.bool fd=Value.bool fd,Value.bool off=Value.bool off,Th.ext (Dk.flat (FL.secs L))=Th.ext (Dk.flat (FL.secs L)),Th.ext (Dk.flat (FL.pens Q))=Th.ext (Dk.flat (FL.pens Q)),Value.int IntKind.u64 (Int.ofNat 0)=Value.int IntKind.u64 (ldV hrG L Q a),Value.int IntKind.u64 (Int.ofNat 0)=Value.int IntKind.u64 (ldV hrL L Q a),Value.int IntKind.u64 (Int.ofNat 0)=Value.int IntKind.u64 (ldV hrF L Q a),Value.bool false=Value.bool (ldB L Q a),Value.int IntKind.i64 (Int.ofNat 0)=Value.int IntKind.i64 (hwI (↑L.length:Int) a)],by kernel_rfl,(by refine mcons ?_ (mcons ?_ (mcons ?_ (mcons ?_ (mcons ?_ (mcons ?_ (mcons ?_ (mcons ?_ (mcons ?_ (mcons ?_ (mcons ?_ (mcons ?_ (mcons ?_ (mcons ?_ (mcons ?_ (mcons ?_ (mcons ?_ (mcons ?_ (mcons ?_ mnil))))))))))))))))))<;>first|rfl|exact h0|exact h1|exact h2|exact h3|exact h4|exact h5|exact h6|exact h7|exact h8|exact h9|exact h10|exact h11|trivial|(rw [h7];rfl)|(rw [h7])|(rw [h8];rfl)|(rw [h8])|(rw [h9];rfl)|(rw [h9])|(rw [h10];rfl)|(rw [h10])|(rw [h11];rfl)|(rw [h11]))⟩
end Go.Proofs.Ytonomiljclemnaa
set_option linter.unusedVariables false
set_option linter.unusedSimpArgs false
namespace Go.Proofs.Ytonomiljclemnaa
open Go.RowKit
theorem hwI_ok {n:Nat} {a:Int} (hn:n≤100000) (h:(hwI (n:Int) a != 0)=false):0≤a∧a+1<n∧hwI (n:Int) a=0:=by
 have h:hwI (n:Int) a=0:=by simpa using h
 refine ⟨?_,?_,h⟩<;>
 ·unfold hwI at h
  cases h0:((n:Int)==0) with
  |true=>rw [h0] at h;cases h
  |false=>
   rw [h0,cond_false] at h
   cases h1:(decide (a<0)||decide (a≥IntKind.i64.wrap ((n:Int) - 1))) with
   |true=>rw [h1] at h;cases h
   |false=>
    have hn0:(n:Int)≠0:=by simpa using h0
    rw [IntWalk.i64_in _ (by omega)] at h1
    simp at h1
    omega
def C_load:Ctr Td:=fun us sub=>match us,sub with
 |[.one (.ptr 0 0),.one (.v (.int .i64 a))],[⟨.bx [.obj 1,.obj 2,.v (.int .i64 fu),.v (.bool fd),.v (.bool off)],true⟩,⟨.us (.ext (.flat (.secs L))),true⟩,⟨.us (.ext (.flat (.pens Q))),true⟩]=>some ([WidL L,WidQ Q,L.length≤100000],.tup [.agg [.v (.int .u64 (ldV hrG L Q a)),.v (.int .u64 (ldV hrL L Q a)),.v (.int .u64 (ldV hrF L Q a))],.one (.v (.bool (ldB L Q a))),.one (.v (.int .i64 (hwI (L.length:Int) a)))],[⟨.bx [.obj 1,.obj 2,.v (.int .i64 fu),.v (.bool fd),.v (.bool off)],true⟩,⟨.us (.ext (.flat (.secs L))),true⟩,⟨.us (.ext (.flat (.pens Q))),true⟩])
 |_,_=>none
set_option maxHeartbeats 2000000 in
set_option maxRecDepth 100000 in
theorem C_load_ok:CtrOk Try.prog Id' 35 C_load:=by
 intro us sub ps x sm h hp w e vs hM ha
 unfold C_load at h
 split at h
 ·rename_i a fu fd off L Q
  simp only [Option.some.injEq,Prod.mk.injEq] at h
  obtain ⟨rfl,rfl,rfl⟩:=h
  have b0:WidL L:=hp _ (by simp)
  have b1:WidQ Q:=hp _ (by simp)
  have b2:L.length≤100000:=hp _ (by simp)
  cases h0:(hwI (L.length:Int) a != 0) with
  |true=>
   have e0:ldV hrG L Q a=0:=by unfold ldV;rw [h0];rfl
   have e1:ldV hrL L Q a=0:=by unfold ldV;rw [h0];rfl
   have e2:ldV hrF L Q a=0:=by unfold ldV;rw [h0];rfl
   have e3:ldB L Q a=false:=by unfold ldB;rw [h0];rfl
   exact ctr_way (I:=Id') (fun (W0:World) (G:Nat→Prop)=>SyOk.mk2 Try.mixed dkHo_ok (FnsR.cons (R_hwrong) (FnsR.cons (R_hread) (FnsR.nil))) EqsOk.nil) rfl Try.func35 (by kernel_rfl) (fun _ _=>LpsOk.nil _) (cs:=[true]) (by kernel_rfl) (load0_w0 L Q fu fd off a h0 e0 e1 e2 e3) w e vs hM ha
  |false=>
   obtain ⟨k1,k2,k3⟩:=hwI_ok b2 h0
   have b3:0≤(IntKind.i64.wrap (a+0))∧(IntKind.i64.wrap (a+0)).toNat<L.length:=by rw [IntWalk.i64_in _ (by omega)];omega
   have b4:0≤(IntKind.i64.wrap (a+1))∧(IntKind.i64.wrap (a+1)).toNat<L.length:=by rw [IntWalk.i64_in _ (by omega)];omega
   cases hp1:ldP L Q a with
   |true=>
    have h1:(ldP L Q a&&true)=true:=by rw [hp1];rfl
    cases h2:(ldQ L Q a&&decide (ldZ hrG L Q a>ldA hrG L Q a)) with
    |true=>
     have ht:ldT L Q a=true:=by unfold ldT;rw [hp1];exact h2
     have e0:ldV hrG L Q a=ldZ hrG L Q a:=by unfold ldV;rw [h0,ht];rfl
     have e1:ldV hrL L Q a=ldZ hrL L Q a:=by unfold ldV;rw [h0,ht];rfl
     have e2:ldV hrF L Q a=ldZ hrF L Q a:=by unfold ldV;rw [h0,ht];rfl
     have e3:ldB L Q a=true:=by unfold ldB;rw [h0,ht];rfl
     exact ctr_way (I:=Id') (fun (W0:World) (G:Nat→Prop)=>SyOk.mk2 Try.mixed dkHo_ok (FnsR.cons (R_hwrong) (FnsR.cons (R_hread) (FnsR.nil))) EqsOk.nil) rfl Try.func35 (by kernel_rfl) (fun _ _=>LpsOk.nil _) (cs:=[false,true,true]) (by kernel_rfl) (load1_w0 L Q fu fd off a h0 h1 h2 b0 b1 b3 b4 e0 e1 e2 e3 k3) w e vs hM ha
    |false=>
     have ht:ldT L Q a=false:=by unfold ldT;rw [hp1];exact h2
     have e0:ldV hrG L Q a=ldA hrG L Q a:=by unfold ldV;rw [h0,ht];rw [hp1];rfl
     have e1:ldV hrL L Q a=ldA hrL L Q a:=by unfold ldV;rw [h0,ht];rw [hp1];rfl
     have e2:ldV hrF L Q a=ldA hrF L Q a:=by unfold ldV;rw [h0,ht];rw [hp1];rfl
     have e3:ldB L Q a=true:=by unfold ldB;rw [h0,ht];rw [hp1];rfl
     exact ctr_way (I:=Id') (fun (W0:World) (G:Nat→Prop)=>SyOk.mk2 Try.mixed dkHo_ok (FnsR.cons (R_hwrong) (FnsR.cons (R_hread) (FnsR.nil))) EqsOk.nil) rfl Try.func35 (by kernel_rfl) (fun _ _=>LpsOk.nil _) (cs:=[false,true,false]) (by kernel_rfl) (load2_w0 L Q fu fd off a h0 h1 h2 b0 b1 b3 b4 e0 e1 e2 e3 k3) w e vs hM ha
   |false=>
    have h1:(ldP L Q a&&true)=false:=by rw [hp1];rfl
    cases h2:(ldQ L Q a&&true) with
    |true=>
     have ht:ldT L Q a=true:=by unfold ldT;rw [hp1];exact h2
     have e0:ldV hrG L Q a=ldZ hrG L Q a:=by unfold ldV;rw [h0,ht];rfl
     have e1:ldV hrL L Q a=ldZ hrL L Q a:=by unfold ldV;rw [h0,ht];rfl
     have e2:ldV hrF L Q a=ldZ hrF L Q a:=by unfold ldV;rw [h0,ht];rfl
     have e3:ldB L Q a=true:=by unfold ldB;rw [h0,ht];rfl
     exact ctr_way (I:=Id') (fun (W0:World) (G:Nat→Prop)=>SyOk.mk2 Try.mixed dkHo_ok (FnsR.cons (R_hwrong) (FnsR.cons (R_hread) (FnsR.nil))) EqsOk.nil) rfl Try.func35 (by kernel_rfl) (fun _ _=>LpsOk.nil _) (cs:=[false,false,true]) (by kernel_rfl) (load3_w0 L Q fu fd off a h0 h1 h2 b0 b1 b3 b4 e0 e1 e2 e3 k3) w e vs hM ha
    |false=>
     have ht:ldT L Q a=false:=by unfold ldT;rw [hp1];exact h2
     have e0:ldV hrG L Q a=0:=by unfold ldV;rw [h0,ht];rw [hp1];rfl
     have e1:ldV hrL L Q a=0:=by unfold ldV;rw [h0,ht];rw [hp1];rfl
     have e2:ldV hrF L Q a=0:=by unfold ldV;rw [h0,ht];rw [hp1];rfl
     have e3:ldB L Q a=false:=by unfold ldB;rw [h0,ht];rw [hp1];rfl
     exact ctr_way (I:=Id') (fun (W0:World) (G:Nat→Prop)=>SyOk.mk2 Try.mixed dkHo_ok (FnsR.cons (R_hwrong) (FnsR.cons (R_hread) (FnsR.nil))) EqsOk.nil) rfl Try.func35 (by kernel_rfl) (fun _ _=>LpsOk.nil _) (cs:=[false,false,false]) (by kernel_rfl) (load4_w0 L Q fu fd off a h0 h1 h2 b0 b1 b3 b4 e0 e1 e2 e3 k3) w e vs hM ha
 ·cases h
end Go.Proofs.Ytonomiljclemnaa
set_option linter.unusedVariables false
set_option linter.unusedSimpArgs false
namespace Go.Proofs.Ytonomiljclemnaa
open Go.RowKit
end Go.Proofs.Ytonomiljclemnaa
set_option linter.unusedVariables false
set_option linter.unusedSimpArgs false
namespace Go.Proofs.Ytonomiljclemnaa
open Go.RowKit
end Go.Proofs.Ytonomiljclemnaa
set_option linter.unusedVariables false
set_option linter.unusedSimpArgs false
namespace Go.Proofs.Ytonomiljclemnaa
open Go.RowKit
end Go.Proofs.Ytonomiljclemnaa
set_option linter.unusedVariables false
set_option linter.unusedSimpArgs false
namespace Go.Proofs.Ytonomiljclemnaa
open Go.RowKit
section
variable {P:Program} {α β:Type}
end
end Go.Proofs.Ytonomiljclemnaa
set_option linter.unusedVariables false
set_option linter.unusedSimpArgs false
namespace Go.Proofs.Ytonomiljclemnaa
open Go.RowKit
section
variable {W0:World} {G:Nat→Prop} {w:World} {e:Env} {mem:Mem Td}
end
end Go.Proofs.Ytonomiljclemnaa
set_option linter.unusedVariables false
set_option linter.unusedSimpArgs false
namespace Go.Proofs.Ytonomiljclemnaa
open Go.RowKit
section
variable {S:Sy Td} {W0:World} {G:Nat→Prop} {base:List (Nat×SV)} {sz:Nat} {l:List Oper}
end
end Go.Proofs.Ytonomiljclemnaa
set_option linter.unusedVariables false
set_option linter.unusedSimpArgs false
namespace Go.Proofs.Ytonomiljclemnaa
open Go.RowKit
section
variable {W0:World} {G:Nat→Prop} {sz:Nat}
end
end Go.Proofs.Ytonomiljclemnaa
set_option linter.unusedVariables false
set_option linter.unusedSimpArgs false
namespace Go.Proofs.Ytonomiljclemnaa
open Go.RowKit
end Go.Proofs.Ytonomiljclemnaa
set_option linter.unusedVariables false
set_option linter.unusedSimpArgs false
namespace Go.Proofs.Ytonomiljclemnaa
open Go.RowKit
end Go.Proofs.Ytonomiljclemnaa
set_option linter.unusedVariables false
set_option linter.unusedSimpArgs false
namespace Go.Proofs.Ytonomiljclemnaa
open Go.RowKit
structure NewIs (n:Int) (L0:List (List UInt8)):Prop where
 n1:1≤n∧n≤4096
 eq:List.replicate n.toNat sec0=L0
structure SaveIs (s:DS) (i ep gn tl fl e1:Int) (s1:DS):Prop where
 a0:0≤ep∧0≤gn
 a1:0≤tl∧tl<18446744073709551616
 a2:0≤fl∧fl<18446744073709551616
 a3:s.Q.length+1≤100000
 a4:WidQ (svT s i ep gn tl fl).Q
 a5:AtQ s.L.length (svT s i ep gn tl fl).Q
 e:svE s i ep gn tl fl=e1
 s:svS s i ep gn tl fl=s1
structure LoadIs (L:List (List UInt8)) (Q:List (Int×List UInt8)) (a g t f:Int) (b:Bool) (e:Int):Prop where
 a0:WidL L
 a1:WidQ Q
 a2:L.length≤100000
 g:ldV hrG L Q a=g
 t:ldV hrL L Q a=t
 f:ldV hrF L Q a=f
 b:ldB L Q a=b
 e:hwI (L.length:Int) a=e
def C_newX (L0:List (List UInt8)):Ctr Td:=fun us sub=>match us,sub with
 |[.one (.v (.int .i64 n))],[]=>some ([NewIs n L0],.tup [.one (.ptr 0 0),.one (.kI .i64 0)],[⟨.bx [.obj 1,.obj 2,.v (.int .i64 0),.v (.bool false),.v (.bool false)],true⟩,⟨.us (.ext (.flat (.secs L0))),true⟩,⟨.us (.ext (.flat (.pens []))),true⟩])
 |_,_=>none
def C_saveX (e1:Int) (s1:DS):Ctr Td:=fun us sub=>match us,sub with
 |[.one (.ptr 0 0),.one (.v (.int .i64 i)),.one (.v (.int .u64 ep)),.agg [.v (.int .u64 gn),.v (.int .u64 tl),.v (.int .u64 fl)]],[⟨.bx [.obj 1,.obj 2,.v (.int .i64 fu),.v (.bool fd),.v (.bool off)],true⟩,⟨.us (.ext (.flat (.secs L))),true⟩,⟨.us (.ext (.flat (.pens Q))),true⟩]=>some ([SaveIs (⟨L,Q,fu,fd,off⟩:DS) i ep gn tl fl e1 s1],svV (.int .i64 e1),[⟨.bx [.obj 1,.obj 3,.v (.int .i64 s1.fu),.v (.bool s1.fd),.v (.bool s1.off)],true⟩,⟨.us (.ext (.flat (.secs s1.L))),true⟩,⟨.dead,true⟩,⟨.us (.ext (.flat (.pens s1.Q))),true⟩])
 |_,_=>none
def C_loadX (g t f:Int) (b:Bool) (e:Int):Ctr Td:=fun us sub=>match us,sub with
 |[.one (.ptr 0 0),.one (.v (.int .i64 a))],[⟨.bx [.obj 1,.obj 2,.v (.int .i64 fu),.v (.bool fd),.v (.bool off)],true⟩,⟨.us (.ext (.flat (.secs L))),true⟩,⟨.us (.ext (.flat (.pens Q))),true⟩]=>some ([LoadIs L Q a g t f b e],.tup [.agg [.v (.int .u64 g),.v (.int .u64 t),.v (.int .u64 f)],.one (.v (.bool b)),.one (.v (.int .i64 e))],[⟨.bx [.obj 1,.obj 2,.v (.int .i64 fu),.v (.bool fd),.v (.bool off)],true⟩,⟨.us (.ext (.flat (.secs L))),true⟩,⟨.us (.ext (.flat (.pens Q))),true⟩])
 |_,_=>none
set_option maxRecDepth 100000 in
theorem C_newX_ok (L0:List (List UInt8)):CtrOk Try.prog Id' 23 (C_newX L0):=by
 intro us sub ps x sm h hp w e_ vs hM ha
 unfold C_newX at h
 split at h
 ·rename_i n
  simp only [Option.some.injEq,Prod.mk.injEq] at h
  obtain ⟨rfl,rfl,rfl⟩:=h
  have q:=hp _ (List.mem_cons_self ..)
  obtain ⟨q0,rfl⟩:=q
  exact C_newG_ok _ _ _ _ _ rfl (fun q hq=>by simp only [List.mem_cons,List.not_mem_nil,or_false] at hq;rcases hq with rfl<;>assumption) w e_ vs hM ha
 ·cases h
theorem R_newX (L0:List (List UInt8)):RowOk Try.prog Id' hardD 23 (ctrF Id' (C_newX L0) hardD):=ctrF_ok Try.call23 (C_newX_ok L0)
set_option maxRecDepth 100000 in
theorem C_saveX_ok (e1:Int) (s1:DS):CtrOk Try.prog Id' 36 (C_saveX e1 s1):=by
 intro us sub ps x sm h hp w e_ vs hM ha
 unfold C_saveX at h
 split at h
 ·rename_i i ep gn tl fl fu fd off L Q
  simp only [Option.some.injEq,Prod.mk.injEq] at h
  obtain ⟨rfl,rfl,rfl⟩:=h
  have q:=hp _ (List.mem_cons_self ..)
  obtain ⟨q0,q1,q2,q3,q4,q5,rfl,rfl⟩:=q
  exact C_save_ok _ _ _ _ _ rfl (fun q hq=>by simp only [List.mem_cons,List.not_mem_nil,or_false] at hq;rcases hq with rfl|rfl|rfl|rfl|rfl|rfl<;>assumption) w e_ vs hM ha
 ·cases h
theorem R_saveX (e1:Int) (s1:DS):RowOk Try.prog Id' hardD 36 (ctrF Id' (C_saveX e1 s1) hardD):=ctrF_ok Try.call36 (C_saveX_ok e1 s1)
set_option maxRecDepth 100000 in
theorem C_loadX_ok (g t f:Int) (b:Bool) (e:Int):CtrOk Try.prog Id' 35 (C_loadX g t f b e):=by
 intro us sub ps x sm h hp w e_ vs hM ha
 unfold C_loadX at h
 split at h
 ·rename_i a fu fd off L Q
  simp only [Option.some.injEq,Prod.mk.injEq] at h
  obtain ⟨rfl,rfl,rfl⟩:=h
  have q:=hp _ (List.mem_cons_self ..)
  obtain ⟨q0,q1,q2,rfl,rfl,rfl,rfl,rfl⟩:=q
  exact C_load_ok _ _ _ _ _ rfl (fun q hq=>by simp only [List.mem_cons,List.not_mem_nil,or_false] at hq;rcases hq with rfl|rfl|rfl<;>assumption) w e_ vs hM ha
 ·cases h
theorem R_loadX (g t f:Int) (b:Bool) (e:Int):RowOk Try.prog Id' hardD 35 (ctrF Id' (C_loadX g t f b e) hardD):=ctrF_ok Try.call35 (C_loadX_ok g t f b e)
set_option maxRecDepth 100000 in
theorem hlives_w0 (L0:List (List UInt8)) (s1:DS) (h0:NewIs 2 L0) (h1:SaveIs (⟨L0,[],0,false,false⟩:DS) 0 1 1 7 2 0 s1) (h2:LoadIs s1.L s1.Q 0 1 7 2 true 0):∃ qs,wayO Id' (([]:Mem Td):Mem Td).length ([]:Mem Td) (svV (.bool true)) ((runFn (⟨Try.prog,[(23,ctrF Id' (C_newX L0) hardD),(36,ctrF Id' (C_saveX 0 s1) hardD),(35,ctrF Id' (C_loadX 1 7 2 true 0) hardD)],[],dkHo,Id'.one,60⟩:Sy Td) [] Try.f37 [] ([]:Mem Td)).al [false])=some qs∧∀ q∈qs,q:=
 ⟨[NewIs (2:Int) L0,SaveIs (DS.mk L0 [] (0:Int) false false) (0:Int) (1:Int) (1:Int) (7:Int) (2:Int) (0:Int) s1,false=false,LoadIs s1.L s1.Q (0:Int) (1:Int) (7:Int) (2:Int) true (0:Int),Value.bool true=Value.bool true],by kernel_rfl,(by refine mcons ?_ (mcons ?_ (mcons ?_ (mcons ?_ (mcons ?_ mnil))))<;>first|rfl|exact h0|exact h1|exact h2|trivial|(exact Nat.le_of_ble_eq_true rfl))⟩
def hL0:List (List UInt8):=List.replicate 2 sec0
def hS0:DS:=⟨hL0,[],0,false,false⟩
def hS1:DS:=svS hS0 0 1 1 7 2
theorem widQ_bool {Q:List (Int×List UInt8)} (h:((Q.all fun q=>q.2.length==128)&&decide (Q.length≤100000))=true):WidQ Q:=by
 rw [Bool.and_eq_true] at h
 exact ⟨fun q hq=>eq_of_beq (List.all_eq_true.1 h.1 q hq),of_decide_eq_true h.2⟩
theorem atQ_bool {n:Nat} {Q:List (Int×List UInt8)} (h:(Q.all fun q=>decide (0≤q.1∧q.1.toNat<n))=true):AtQ n Q:=fun q hq=>of_decide_eq_true (List.all_eq_true.1 h q hq)
theorem widL_bool {L:List (List UInt8)} (h:(L.all fun l=>l.length==128)=true):WidL L:=fun q hq=>eq_of_beq (List.all_eq_true.1 h q hq)
theorem hlive0:NewIs 2 hL0:=⟨by decide,rfl⟩
theorem hlive1:SaveIs hS0 0 1 1 7 2 0 hS1:=⟨by decide,by decide,by decide,by decide,widQ_bool (by decide +kernel),atQ_bool (by decide +kernel),by decide +kernel,rfl⟩
theorem hlive2:LoadIs hS1.L hS1.Q 0 1 7 2 true 0:=⟨widL_bool (by decide +kernel),widQ_bool (by decide +kernel),by decide +kernel,by decide +kernel,by decide +kernel,by decide +kernel,by decide +kernel,by decide +kernel⟩
def C_hlives:Ctr Td:=fun us sub=>match us,sub with
 |[],[]=>some ([],svV (.bool true),[])
 |_,_=>none
set_option maxRecDepth 100000 in
theorem C_hlives_ok:CtrOk Try.prog Id' 37 C_hlives:=by
 intro us sub ps x sm h hp w e vs hM ha
 unfold C_hlives at h
 split at h
 ·skip
  simp only [Option.some.injEq,Prod.mk.injEq] at h
  obtain ⟨rfl,rfl,rfl⟩:=h
  exact ctr_way (I:=Id') (fun (W0:World) (G:Nat→Prop)=>SyOk.mk2 Try.mixed dkHo_ok (FnsR.cons (R_newX hL0) (FnsR.cons (R_saveX 0 hS1) (FnsR.cons (R_loadX 1 7 2 true 0) (FnsR.nil)))) EqsOk.nil) rfl Try.func37 (by kernel_rfl) (fun _ _=>LpsOk.nil _) (cs:=[false]) (by kernel_rfl) (hlives_w0 hL0 hS1 hlive0 hlive1 hlive2) w e vs hM ha
 ·cases h
theorem R_hlives:RowOk Try.prog Id' hardD 37 (ctrF Id' C_hlives hardD):=ctrF_ok Try.call37 C_hlives_ok
end Go.Proofs.Ytonomiljclemnaa
