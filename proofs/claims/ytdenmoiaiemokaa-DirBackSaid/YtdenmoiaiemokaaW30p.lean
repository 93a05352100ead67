/- W19 W20 W21 W22 W23 W24 W25 W26 W27 W28 W29 W30. -/
import Derived.Test.YtdenmoiaiemokaaW18p
set_option linter.unusedVariables false
set_option linter.unusedSimpArgs false
namespace Go.Proofs.Ytdenmoiaiemokaa
open Go.RowKit
def m5 (X:List Rw):Int:=if (5:Int)<(X.length:Int) then (5:Int) else (X.length:Int)
def blkP (Y:List Rw):List UInt8:=(putsW .new Y Y.length).out++List.replicate (IntKind.i64.wrap ((128:Int) - ((putsW .new Y Y.length).out.length:Int))).toNat 0
set_option maxRecDepth 100000 in
theorem dbo_n (R X X2 Y:List Rw) (O O2:List (List UInt8)) (k:Nat) (f:Nat→Value) (h0:decide ((X.length:Int)>0)=true) (h1:(0:Int)≤(0:Int)∧(0:Int)≤m5 X∧m5 X≤(X.length:Int)) (h2:((List.take ((m5 X).toNat - Int.toNat 0) (List.drop (Int.toNat 0) X)).length:Int)=(Y.length:Int)) (h3:List.take ((m5 X).toNat - Int.toNat 0) (List.drop (Int.toNat 0) X)=Y) (h4:List.take ((X.length:Int).toNat - (m5 X).toNat) (List.drop (m5 X).toNat X)=X2) (h5:O++[blkP Y]=O2) (h6:(putsW WS.new Y Y.length).n≤500000000) (h7:(TB.bs O).n+(TB.bs [blkP Y]).n≤100000) (h8:0≤IntKind.i64.wrap ((128:Int) - ((putsW WS.new Y Y.length).out.length:Int))) (h9:(putsW WS.new Y Y.length).out.length+(IntKind.i64.wrap ((128:Int) - ((putsW WS.new Y Y.length).out.length:Int))).toNat≤1000000) (h10:(0:Int)≤m5 X∧m5 X≤(X.length:Int)∧(X.length:Int)≤(X.length:Int)):∃ qs,alN Id' 1 [(0,.c (.one (.obj 1))),(4,.c (.one (.obj 2)))] [⟨.us (.ext (.vw [true,false,false,false] R)),false⟩,⟨.us (.ext (.vw [true,false,false,false] X2)),false⟩,⟨.us (.ext (.tab (.bs O2))),true⟩] ((symC (⟨Try.prog,[F_new (ξ:=Dk) (hx:=hardDk),F_doneP (ξ:=Dk) (hx:=hardDk)],[],dkHo,Id'.one,60⟩:Sy Td) [(10,(lpG Id' 59 (hdC (loopsC (bodyOf Try.f58)) 1) 5 [(34,.c (.one (.v (.int .i64 ((0:Nat):Int)))))] [(6,.c (.one (.obj 3))),(32,.c (.one (.obj 4))),(33,.c (.one (.v (.int .i64 (Y.length:Int)))))] [⟨.us (.ext (.vw [true,false,false,false] R)),false⟩,⟨.us (.ext (.vw [true,false,false,false] X)),false⟩,⟨.us (.ext (.tab (.bs O))),true⟩,⟨.us (.wr (putsW .new Y 0)),true⟩,⟨.us (.ext (.vw [true,false,false,false] Y)),false⟩] (.leaf (.exit 3) [] [⟨.us (.ext (.vw [true,false,false,false] R)),false⟩,⟨.us (.ext (.vw [true,false,false,false] X)),false⟩,⟨.us (.ext (.tab (.bs O))),true⟩,⟨.us (.wr (putsW .new Y Y.length)),true⟩,⟨.us (.ext (.vw [true,false,false,false] Y)),false⟩])))] 59 (hdC (loopsC (bodyOf Try.f58)) 0) ⟨[(0,.c (.one (.obj 1))),(4,.c (.one (.obj 2)))]++anyB' (writesC (hdC (loopsC (bodyOf Try.f58)) 0)) ([]++tabV f 59),[⟨.us (.ext (.vw [true,false,false,false] R)),false⟩,⟨.us (.ext (.vw [true,false,false,false] X)),false⟩,⟨.us (.ext (.tab (.bs O))),true⟩],0⟩).al [true])=some qs∧∀ q∈qs,q:=
 ⟨[decide ((↑X.length:Int)>(0:Int))=true,(0:Int)≤(0:Int)∧((0:Int)≤if (5:Int)<(↑X.length:Int) then (5:Int) else (↑X.length:Int))∧(if (5:Int)<(↑X.length:Int) then (5:Int) else (↑X.length:Int))≤(↑X.length:Int),Value.int IntKind.i64 (↑(List.take ((if (5:Int)<(↑X.length:Int) then (5:Int) else (↑X.length:Int)).toNat - Int.toNat (0:Int)) (List.drop (Int.toNat (0:Int)) X)).length:Int)=Value.int IntKind.i64 (↑Y.length:Int),Th.ext (Dk.vw [true,false,false,false] R)=Th.ext (Dk.vw [true,false,false,false] R),Th.ext (Dk.vw [true,false,false,false] X)=Th.ext (Dk.vw [true,false,false,false] X),Th.ext (Dk.tab (TB.bs O))=Th.ext (Dk.tab (TB.bs O)),(Th.wr .new:Td)=Th.wr .new,(Th.ext (Dk.vw [true,false,false,false] (List.take ((m5 X).toNat - Int.toNat 0) (List.drop (Int.toNat 0) X))):Td)=Th.ext (Dk.vw [true,false,false,false] Y),Value.int IntKind.i64 (Int.ofNat 0)=Value.int IntKind.i64 (Int.ofNat (0:Nat)),(putsW WS.new Y Y.length).n≤(500000000:Nat),(TB.bs O).n+(TB.bs [(putsW WS.new Y Y.length).out++List.replicate (IntKind.i64.wrap ((128:Int) - (↑(putsW WS.new Y Y.length).out.length:Int))).toNat (0:UInt8)]).n≤(100000:Nat),(0:Int)≤IntKind.i64.wrap ((128:Int) - (↑(putsW WS.new Y Y.length).out.length:Int)),(putsW WS.new Y Y.length).out.length+(IntKind.i64.wrap ((128:Int) - (↑(putsW WS.new Y Y.length).out.length:Int))).toNat≤(1000000:Nat),((0:Int)≤if (5:Int)<(↑X.length:Int) then (5:Int) else (↑X.length:Int))∧(if (5:Int)<(↑X.length:Int) then (5:Int) else (↑X.length:Int))≤(↑X.length:Int)∧(↑X.length:Int)≤(↑X.length:Int),Th.ext (Dk.vw [true,false,false,false] R)=Th.ext (Dk.vw [true,false,false,false] R),(Th.ext (Dk.vw [true,false,false,false] (List.take ((X.length:Int).toNat - (m5 X).toNat) (List.drop (m5 X).toNat X))):Td)=Th.ext (Dk.vw [true,false,false,false] X2),(Th.ext (Dk.tab (TB.bs (O++[blkP Y]))):Td)=Th.ext (Dk.tab (TB.bs O2))],by kernel_rfl,(by refine mcons ?_ (mcons ?_ (mcons ?_ (mcons ?_ (mcons ?_ (mcons ?_ (mcons ?_ (mcons ?_ (mcons ?_ (mcons ?_ (mcons ?_ (mcons ?_ (mcons ?_ (mcons ?_ (mcons ?_ (mcons ?_ (mcons ?_ mnil))))))))))))))))<;>first|(exact congrArg (fun x=>(Th.ext (Dk.vw [true,false,false,false] x):Td)) h3)|(exact congrArg (fun x=>(Th.ext (Dk.vw [true,false,false,false] x):Td)) h4)|(exact congrArg (fun x=>(Th.ext (Dk.tab (TB.bs x)):Td)) h5)|(exact congrArg _ h2)|rfl|exact h0|exact h1|exact h2|exact h3|exact h4|exact h5|exact h6|exact h7|exact h8|exact h9|exact h10|trivial|(exact congrArg _ h2))⟩
set_option maxRecDepth 100000 in
theorem dbo_x (R X X2 Y:List Rw) (O O2:List (List UInt8)) (k:Nat) (f:Nat→Value) (h0:decide ((X.length:Int)>0)=false) (h1:X=X2) (h2:O=O2):∃ qs,alX Id' 1 1 [(4,.c (.one (.obj 2)))] [⟨.us (.ext (.vw [true,false,false,false] R)),false⟩,⟨.us (.ext (.vw [true,false,false,false] X2)),false⟩,⟨.us (.ext (.tab (.bs O2))),true⟩] ((symC (⟨Try.prog,[F_new (ξ:=Dk) (hx:=hardDk),F_doneP (ξ:=Dk) (hx:=hardDk)],[],dkHo,Id'.one,60⟩:Sy Td) [(10,(lpG Id' 59 (hdC (loopsC (bodyOf Try.f58)) 1) 5 [(34,.c (.one (.v (.int .i64 ((0:Nat):Int)))))] [(6,.c (.one (.obj 3))),(32,.c (.one (.obj 4))),(33,.c (.one (.v (.int .i64 (Y.length:Int)))))] [⟨.us (.ext (.vw [true,false,false,false] R)),false⟩,⟨.us (.ext (.vw [true,false,false,false] X)),false⟩,⟨.us (.ext (.tab (.bs O))),true⟩,⟨.us (.wr (putsW .new Y 0)),true⟩,⟨.us (.ext (.vw [true,false,false,false] Y)),false⟩] (.leaf (.exit 3) [] [⟨.us (.ext (.vw [true,false,false,false] R)),false⟩,⟨.us (.ext (.vw [true,false,false,false] X)),false⟩,⟨.us (.ext (.tab (.bs O))),true⟩,⟨.us (.wr (putsW .new Y Y.length)),true⟩,⟨.us (.ext (.vw [true,false,false,false] Y)),false⟩])))] 59 (hdC (loopsC (bodyOf Try.f58)) 0) ⟨[(0,.c (.one (.obj 1))),(4,.c (.one (.obj 2)))]++anyB' (writesC (hdC (loopsC (bodyOf Try.f58)) 0)) ([]++tabV f 59),[⟨.us (.ext (.vw [true,false,false,false] R)),false⟩,⟨.us (.ext (.vw [true,false,false,false] X)),false⟩,⟨.us (.ext (.tab (.bs O))),true⟩],0⟩).al [false])=some qs∧∀ q∈qs,q:=
 ⟨[decide ((↑X.length:Int)>(0:Int))=false,Th.ext (Dk.vw [true,false,false,false] R)=Th.ext (Dk.vw [true,false,false,false] R),Th.ext (Dk.vw [true,false,false,false] X)=Th.ext (Dk.vw [true,false,false,false] X2),Th.ext (Dk.tab (TB.bs O))=Th.ext (Dk.tab (TB.bs O2))],by kernel_rfl,(by refine mcons ?_ (mcons ?_ (mcons ?_ (mcons ?_ mnil)))<;>first|(exact congrArg (fun x=>(Th.ext (Dk.vw [true,false,false,false] x):Td)) h1)|(exact congrArg (fun x=>(Th.ext (Dk.tab (TB.bs x)):Td)) h2)|rfl|exact h0|exact h1|exact h2|trivial)⟩
end Go.Proofs.Ytdenmoiaiemokaa
set_option linter.unusedVariables false
namespace Go.Proofs.Ytdenmoiaiemokaa
open Go.RowKit
theorem wput_len (s:WS) (x n:Int):(s.put x n).bl.length≤s.bl.length+n.toNat:=by
 simp only [WS.put,putL]
 split
 ·rw [List.length_append,bitsOf_length];exact Nat.le_refl _
 ·omega
theorem putN_len (s:WS) (nm:ByteArray):∀ k,(putN s nm k).bl.length≤s.bl.length+8 * k
 |0=>Nat.le_refl _
 |k+1=>by
  have:=putN_len s nm k
  have h:=wput_len (putN s nm k) (chI nm (k:Int)) 8
  show ((putN s nm k).put (chI nm (k:Int)) 8).bl.length≤_
  have:(8:Int).toNat=8:=rfl
  omega
theorem putW_len (s:WS) (nm:ByteArray) (a b c:Int):(putW s nm a b c).bl.length≤s.bl.length+172:=by
 unfold putW
 have h0:=putN_len ((((s.put (IntKind.u64.wrap (nm.size:Int)) 5).put (IntKind.u64.wrap a) 6).put (IntKind.u64.wrap b) 31).put (IntKind.u64.wrap c) 2) nm 16
 have h1:=wput_len s (IntKind.u64.wrap (nm.size:Int)) 5
 have h2:=wput_len (s.put (IntKind.u64.wrap (nm.size:Int)) 5) (IntKind.u64.wrap a) 6
 have h3:=wput_len ((s.put (IntKind.u64.wrap (nm.size:Int)) 5).put (IntKind.u64.wrap a) 6) (IntKind.u64.wrap b) 31
 have h4:=wput_len (((s.put (IntKind.u64.wrap (nm.size:Int)) 5).put (IntKind.u64.wrap a) 6).put (IntKind.u64.wrap b) 31) (IntKind.u64.wrap c) 2
 have e5:(5:Int).toNat=5:=rfl
 have e6:(6:Int).toNat=6:=rfl
 have e31:(31:Int).toNat=31:=rfl
 have e2:(2:Int).toNat=2:=rfl
 omega
theorem putsW_len (s:WS) (Y:List Rw):∀ k,(putsW s Y k).bl.length≤s.bl.length+172 * k
 |0=>Nat.le_refl _
 |k+1=>by
  have:=putsW_len s Y k
  have h:=putW_len (putsW s Y k) ((Y.getD k Rw.zero).ss.getD 0 ⟨#[]⟩) ((Y.getD k Rw.zero).is.getD 0 0) ((Y.getD k Rw.zero).is.getD 1 0) ((Y.getD k Rw.zero).is.getD 2 0)
  show (putR (putsW s Y k) (Y.getD k Rw.zero)).bl.length≤_
  unfold putR
  omega
theorem out_len (Y:List Rw) (h:Y.length≤5):(putsW .new Y Y.length).out.length≤128:=by
 have:=putsW_len .new Y Y.length
 have h0:(WS.new).bl.length=0:=rfl
 unfold WS.out
 split
 ·rw [packed_length];omega
 ·exact Nat.zero_le _
theorem w128 {Y:List Rw} (h:Y.length≤5):IntKind.i64.wrap ((128:Int) - ((putsW WS.new Y Y.length).out.length:Int))=(128:Int) - ((putsW WS.new Y Y.length).out.length:Int):=by
 have:=out_len Y h
 exact IntWalk.i64_in _ (by omega)
theorem m5_nat (X:List Rw):(m5 X).toNat=min 5 X.length:=by unfold m5;split<;>omega
theorem m5_le (X:List Rw):0≤m5 X∧m5 X≤(X.length:Int):=by unfold m5;split<;>omega
theorem take_m5 (X:List Rw):List.take ((m5 X).toNat - Int.toNat 0) (List.drop (Int.toNat 0) X)=X.take 5:=by
 rw [m5_nat]
 show List.take (min 5 X.length - 0) (List.drop 0 X)=X.take 5
 rw [List.drop_zero,Nat.sub_zero,List.take_eq_take_iff];omega
theorem drop_m5 (X:List Rw):List.take ((X.length:Int).toNat - (m5 X).toNat) (List.drop (m5 X).toNat X)=X.drop 5:=by
 rw [m5_nat,Int.toNat_natCast,List.take_of_length_le (by rw [List.length_drop];omega)]
 rcases Nat.le_total 5 X.length with h|h
 ·rw [Nat.min_eq_left h]
 ·rw [Nat.min_eq_right h,List.drop_of_length_le h,List.drop_length]
def blksP (R:List Rw):Nat→List (List UInt8)
 |0=>[]
 |k+1=>blksP R k++[blkP ((R.drop (5 * k)).take 5)]
def nbR (R:List Rw):Nat:=(R.length+4) / 5
theorem blksP_len (R:List Rw):∀ k,(blksP R k).length=k
 |0=>rfl
 |k+1=>by simp [blksP,blksP_len R k]
end Go.Proofs.Ytdenmoiaiemokaa
set_option linter.unusedVariables false
set_option linter.unusedSimpArgs false
namespace Go.Proofs.Ytdenmoiaiemokaa
open Go.RowKit
set_option maxRecDepth 100000 in
theorem dbo_lp (R:List Rw) (hR:R.length≤1000) {W0:World} {G:Nat→Prop} (S0:Sy Td) (hS0:S0.P=Try.prog):LoopSound S0 Id' W0 G 59 (hdC (loopsC (bodyOf Try.f58)) 0) (lpG Id' 59 (hdC (loopsC (bodyOf Try.f58)) 0) 1 [(0,.c (.one (.obj 1))),(4,.c (.one (.obj 2)))] [] [⟨.us (.ext (.vw [true,false,false,false] R)),false⟩,⟨.us (.ext (.vw [true,false,false,false] (R.drop (5 * 0)))),false⟩,⟨.us (.ext (.tab (.bs (blksP R 0)))),true⟩] (.leaf (.exit 1) [(4,.c (.one (.obj 2)))] [⟨.us (.ext (.vw [true,false,false,false] R)),false⟩,⟨.us (.ext (.vw [true,false,false,false] (R.drop (5 * nbR R)))),false⟩,⟨.us (.ext (.tab (.bs (blksP R (nbR R))))),true⟩])):=by
 refine lp_sound (V:=fun k=>[(0,.c (.one (.obj 1))),(4,.c (.one (.obj 2)))]) (M:=(fun k=>[⟨.us (.ext (.vw [true,false,false,false] R)),false⟩,⟨.us (.ext (.vw [true,false,false,false] (R.drop (5 * k)))),false⟩,⟨.us (.ext (.tab (.bs (blksP R k)))),true⟩]:Nat→Mem Td)) (N:=nbR R) (Ux:=fun k x=>match x with|.exit 1=>some ([(4,.c (.one (.obj 2)))],([⟨.us (.ext (.vw [true,false,false,false] R)),false⟩,⟨.us (.ext (.vw [true,false,false,false] (R.drop (5 * nbR R)))),false⟩,⟨.us (.ext (.tab (.bs (blksP R (nbR R))))),true⟩]:Mem Td))|_=>none) (X:=fun _ _=>True) (J:=fun k=>k≤nbR R) (fun k=>by kernel_rfl) (Nat.zero_le _) (fun k hk hJ f=>?_) (fun K hK k x U hk hU hX=>?_)
 ·rw [hS0]
  have hXl:(R.drop (5 * k)).length=R.length - 5 * k:=List.length_drop ..
  have hYl:((R.drop (5 * k)).take 5).length≤5:=List.length_take_le ..
  cases hT:decide (((R.drop (5 * k)).length:Int)>0) with
  |false=>
   have hke:k=nbR R:=by have:=of_decide_eq_false hT;unfold nbR at hJ ⊢;omega
   obtain ⟨ps,h1,h2⟩:=dbo_x R (R.drop (5 * k)) (R.drop (5 * nbR R)) ((R.drop (5 * k)).take 5) (blksP R k) (blksP R (nbR R)) k f hT (by rw [hke]) (by rw [hke])
   exact rnd_x (⟨Try.prog,[F_new (ξ:=Dk) (hx:=hardDk),F_doneP (ξ:=Dk) (hx:=hardDk)],[],dkHo,Id'.one,60⟩:Sy Td) [(10,(lpG Id' 59 (hdC (loopsC (bodyOf Try.f58)) 1) 5 [(34,.c (.one (.v (.int .i64 ((0:Nat):Int)))))] [(6,.c (.one (.obj 3))),(32,.c (.one (.obj 4))),(33,.c (.one (.v (.int .i64 (((R.drop (5 * k)).take 5).length:Int)))))] [⟨.us (.ext (.vw [true,false,false,false] R)),false⟩,⟨.us (.ext (.vw [true,false,false,false] (R.drop (5 * k)))),false⟩,⟨.us (.ext (.tab (.bs (blksP R k)))),true⟩,⟨.us (.wr (putsW .new ((R.drop (5 * k)).take 5) 0)),true⟩,⟨.us (.ext (.vw [true,false,false,false] ((R.drop (5 * k)).take 5))),false⟩] (.leaf (.exit 3) [] [⟨.us (.ext (.vw [true,false,false,false] R)),false⟩,⟨.us (.ext (.vw [true,false,false,false] (R.drop (5 * k)))),false⟩,⟨.us (.ext (.tab (.bs (blksP R k)))),true⟩,⟨.us (.wr (putsW .new ((R.drop (5 * k)).take 5) ((R.drop (5 * k)).take 5).length)),true⟩,⟨.us (.ext (.vw [true,false,false,false] ((R.drop (5 * k)).take 5))),false⟩])))] rfl ((fun (W0:World) (G:Nat→Prop)=>SyOk.mk2 Try.mixed dkHo_ok (FnsR.cons (F_new_ok (J:=dkI) (hx:=hardDk)) (FnsR.cons (F_doneP_ok (J:=dkI) (hx:=hardDk)) (FnsR.nil))) EqsOk.nil) W0 G) (LpsOk.cons (by kernel_rfl) (dbi_lp R (R.drop (5 * k)) ((R.drop (5 * k)).take 5) (blksP R k) .new (by omega) (by decide) _ rfl) (LpsOk.nil _)) (m2:=_) (fun w e h=>h) [false] 1 ps h1 h2 rfl trivial
  |true=>
   have hk1:=of_decide_eq_true hT
   have hk2:k<nbR R:=by unfold nbR at hJ ⊢;omega
   have ht:=take_m5 (R.drop (5 * k))
   have hd:=drop_m5 (R.drop (5 * k))
   have hm:=m5_le (R.drop (5 * k))
   have ho:=out_len _ hYl
   have hw:=w128 hYl
   have hbl:(blksP R k).length=k:=blksP_len R k
   have hn:(putsW WS.new ((R.drop (5 * k)).take 5) ((R.drop (5 * k)).take 5).length).n≤500000000:=by rw [putsW_n];show 0+_≤_;omega
   obtain ⟨ps,h1,h2⟩:=dbo_n R (R.drop (5 * k)) (R.drop (5 * (k+1))) ((R.drop (5 * k)).take 5) (blksP R k) (blksP R (k+1)) k f hT ⟨Int.le_refl _,hm.1,hm.2⟩ (by rw [ht]) ht (by rw [hd,List.drop_drop,Nat.mul_succ]) rfl hn (by
    show (blksP R k).length+1≤100000
    unfold nbR at hk2;omega) (by rw [hw];omega) (by rw [hw];omega) ⟨hm.1,hm.2,Int.le_refl _⟩
   exact rnd_n (⟨Try.prog,[F_new (ξ:=Dk) (hx:=hardDk),F_doneP (ξ:=Dk) (hx:=hardDk)],[],dkHo,Id'.one,60⟩:Sy Td) [(10,(lpG Id' 59 (hdC (loopsC (bodyOf Try.f58)) 1) 5 [(34,.c (.one (.v (.int .i64 ((0:Nat):Int)))))] [(6,.c (.one (.obj 3))),(32,.c (.one (.obj 4))),(33,.c (.one (.v (.int .i64 (((R.drop (5 * k)).take 5).length:Int)))))] [⟨.us (.ext (.vw [true,false,false,false] R)),false⟩,⟨.us (.ext (.vw [true,false,false,false] (R.drop (5 * k)))),false⟩,⟨.us (.ext (.tab (.bs (blksP R k)))),true⟩,⟨.us (.wr (putsW .new ((R.drop (5 * k)).take 5) 0)),true⟩,⟨.us (.ext (.vw [true,false,false,false] ((R.drop (5 * k)).take 5))),false⟩] (.leaf (.exit 3) [] [⟨.us (.ext (.vw [true,false,false,false] R)),false⟩,⟨.us (.ext (.vw [true,false,false,false] (R.drop (5 * k)))),false⟩,⟨.us (.ext (.tab (.bs (blksP R k)))),true⟩,⟨.us (.wr (putsW .new ((R.drop (5 * k)).take 5) ((R.drop (5 * k)).take 5).length)),true⟩,⟨.us (.ext (.vw [true,false,false,false] ((R.drop (5 * k)).take 5))),false⟩])))] rfl ((fun (W0:World) (G:Nat→Prop)=>SyOk.mk2 Try.mixed dkHo_ok (FnsR.cons (F_new_ok (J:=dkI) (hx:=hardDk)) (FnsR.cons (F_doneP_ok (J:=dkI) (hx:=hardDk)) (FnsR.nil))) EqsOk.nil) W0 G) (LpsOk.cons (by kernel_rfl) (dbi_lp R (R.drop (5 * k)) ((R.drop (5 * k)).take 5) (blksP R k) .new (by omega) (by decide) _ rfl) (LpsOk.nil _)) (m2:=_) (fun w e h=>h) [true] ps h1 h2 rfl rfl hk2 (by omega)
 ·revert hU
  match x with
  |.normal=>intro hU;cases hU
  |.ret=>intro hU;cases hU
  |.exit n=>
   intro hU
   by_cases h:n=1
   ·subst h;simp only [Option.some.injEq] at hU;subst hU;exact hK
   ·exfalso;split at hU
    ·rename_i he;cases he;exact h rfl
    ·cases hU
end Go.Proofs.Ytdenmoiaiemokaa
set_option linter.unusedVariables false
set_option linter.unusedSimpArgs false
namespace Go.Proofs.Ytdenmoiaiemokaa
open Go.RowKit
theorem nil_tab0 {L:List (List UInt8)} (h:L=[]):∀ w,Id'.holds (Th.ext (Dk.tab (.bs L)):Td) w nilV∧∀ j,¬ Id'.foot (Th.ext (Dk.tab (.bs L)):Td) w nilV j:=by
 subst h
 refine fun w=>⟨⟨(fun r hr=>by cases hr),(fun r hr=>by cases hr),[],rfl,⟨0,Nat.zero_le _,owns_nilV w 0 _ _⟩,fun i v r h=>by simp at h⟩,fun j h=>?_⟩
 rcases h with h|⟨i,r,v,h,_⟩
 ·cases h
 ·simp [TB.R] at h
set_option maxRecDepth 100000 in
theorem dbkA_w0 (R:List Rw) (h0:(!allI 1 R.length (riseI R))=true) (h1:R.length≤100000):∃ qs,wayO Id' ([⟨.us (.ext (.vw [true,false,false,false] R)),false⟩]:Mem Td).length [⟨.us (.ext (.vw [true,false,false,false] R)),false⟩,⟨.us (.ext (.tab (.bs []))),true⟩] (.tup [.one (.obj 1),.one (.v (.int .i64 2))]) ((runFn (⟨Try.prog,[(115,ctrF Id' C_drise hardD),(116,ctrF Id' C_ctf hardD)],[],dkHo,Id'.one,60⟩:Sy Td) [(6,(lpG Id' 59 (hdC (loopsC (bodyOf Try.f58)) 0) 1 [(0,.c (.one (.obj 1))),(4,.c (.one (.obj 2)))] [] [⟨.us (.ext (.vw [true,false,false,false] R)),false⟩,⟨.us (.ext (.vw [true,false,false,false] (R.drop (5 * 0)))),false⟩,⟨.us (.ext (.tab (.bs (blksP R 0)))),true⟩] (.leaf (.exit 1) [(4,.c (.one (.obj 2)))] [⟨.us (.ext (.vw [true,false,false,false] R)),false⟩,⟨.us (.ext (.vw [true,false,false,false] (R.drop (5 * nbR R)))),false⟩,⟨.us (.ext (.tab (.bs (blksP R (nbR R))))),true⟩])))] Try.f58 [.one (.obj 0)] [⟨.us (.ext (.vw [true,false,false,false] R)),false⟩]).al [true])=some qs∧∀ q∈qs,q:=
 ⟨[(!allI (1:Nat) R.length (riseI R))=true,(!allI (1:Nat) R.length (riseI R))=true,R.length≤(100000:Nat),Th.ext (Dk.vw [true,false,false,false] R)=Th.ext (Dk.vw [true,false,false,false] R),∀ (w:World),Id'.holds (Th.ext (Dk.tab (TB.bs []))) w nilV∧∀ (j:Nat),¬Id'.foot (Th.ext (Dk.tab (TB.bs []))) w nilV j,Value.int IntKind.i64 (Int.ofNat 2)=Value.int IntKind.i64 (Int.ofNat 2)],by kernel_rfl,(by refine mcons ?_ (mcons ?_ (mcons ?_ (mcons ?_ (mcons ?_ (mcons ?_ mnil)))))<;>first|rfl|exact h0|exact h1|trivial|(exact nil_tab0 rfl))⟩
set_option maxRecDepth 100000 in
theorem dbkB_w0 (R:List Rw) (h0:(!allI 1 R.length (riseI R))=false) (h1:(!allI 0 R.length (isI R))=true) (h2:R.length≤100000):∃ qs,wayO Id' ([⟨.us (.ext (.vw [true,false,false,false] R)),false⟩]:Mem Td).length [⟨.us (.ext (.vw [true,false,false,false] R)),false⟩,⟨.us (.ext (.tab (.bs []))),true⟩] (.tup [.one (.obj 1),.one (.v (.int .i64 2))]) ((runFn (⟨Try.prog,[(115,ctrF Id' C_drise hardD),(116,ctrF Id' C_ctf hardD)],[],dkHo,Id'.one,60⟩:Sy Td) [(6,(lpG Id' 59 (hdC (loopsC (bodyOf Try.f58)) 0) 1 [(0,.c (.one (.obj 1))),(4,.c (.one (.obj 2)))] [] [⟨.us (.ext (.vw [true,false,false,false] R)),false⟩,⟨.us (.ext (.vw [true,false,false,false] (R.drop (5 * 0)))),false⟩,⟨.us (.ext (.tab (.bs (blksP R 0)))),true⟩] (.leaf (.exit 1) [(4,.c (.one (.obj 2)))] [⟨.us (.ext (.vw [true,false,false,false] R)),false⟩,⟨.us (.ext (.vw [true,false,false,false] (R.drop (5 * nbR R)))),false⟩,⟨.us (.ext (.tab (.bs (blksP R (nbR R))))),true⟩])))] Try.f58 [.one (.obj 0)] [⟨.us (.ext (.vw [true,false,false,false] R)),false⟩]).al [false,true])=some qs∧∀ q∈qs,q:=
 ⟨[(!allI (1:Nat) R.length (riseI R))=false,R.length≤(100000:Nat),(!allI (1:Nat) R.length (riseI R))=false,R.length≤(100000:Nat),(!allI (0:Nat) R.length (isI R))=true,Th.ext (Dk.vw [true,false,false,false] R)=Th.ext (Dk.vw [true,false,false,false] R),∀ (w:World),Id'.holds (Th.ext (Dk.tab (TB.bs []))) w nilV∧∀ (j:Nat),¬Id'.foot (Th.ext (Dk.tab (TB.bs []))) w nilV j,Value.int IntKind.i64 (Int.ofNat 2)=Value.int IntKind.i64 (Int.ofNat 2)],by kernel_rfl,(by refine mcons ?_ (mcons ?_ (mcons ?_ (mcons ?_ (mcons ?_ (mcons ?_ (mcons ?_ (mcons ?_ mnil)))))))<;>first|rfl|exact h0|exact h1|exact h2|trivial|(exact nil_tab0 rfl))⟩
set_option maxRecDepth 100000 in
theorem dbkC_w0 (R:List Rw) (h0:(!allI 1 R.length (riseI R))=false) (h1:(!allI 0 R.length (isI R))=false) (h2:decide ((R.length:Int)>24)=true) (h3:R.length≤100000):∃ qs,wayO Id' ([⟨.us (.ext (.vw [true,false,false,false] R)),false⟩]:Mem Td).length [⟨.us (.ext (.vw [true,false,false,false] R)),false⟩,⟨.us (.ext (.tab (.bs []))),true⟩] (.tup [.one (.obj 1),.one (.v (.int .i64 8))]) ((runFn (⟨Try.prog,[(115,ctrF Id' C_drise hardD),(116,ctrF Id' C_ctf hardD)],[],dkHo,Id'.one,60⟩:Sy Td) [(6,(lpG Id' 59 (hdC (loopsC (bodyOf Try.f58)) 0) 1 [(0,.c (.one (.obj 1))),(4,.c (.one (.obj 2)))] [] [⟨.us (.ext (.vw [true,false,false,false] R)),false⟩,⟨.us (.ext (.vw [true,false,false,false] (R.drop (5 * 0)))),false⟩,⟨.us (.ext (.tab (.bs (blksP R 0)))),true⟩] (.leaf (.exit 1) [(4,.c (.one (.obj 2)))] [⟨.us (.ext (.vw [true,false,false,false] R)),false⟩,⟨.us (.ext (.vw [true,false,false,false] (R.drop (5 * nbR R)))),false⟩,⟨.us (.ext (.tab (.bs (blksP R (nbR R))))),true⟩])))] Try.f58 [.one (.obj 0)] [⟨.us (.ext (.vw [true,false,false,false] R)),false⟩]).al [false,false,true])=some qs∧∀ q∈qs,q:=
 ⟨[(!allI (1:Nat) R.length (riseI R))=false,R.length≤(100000:Nat),(!allI (1:Nat) R.length (riseI R))=false,R.length≤(100000:Nat),(!allI (0:Nat) R.length (isI R))=false,decide ((↑R.length:Int)>(24:Int))=true,Th.ext (Dk.vw [true,false,false,false] R)=Th.ext (Dk.vw [true,false,false,false] R),∀ (w:World),Id'.holds (Th.ext (Dk.tab (TB.bs []))) w nilV∧∀ (j:Nat),¬Id'.foot (Th.ext (Dk.tab (TB.bs []))) w nilV j,Value.int IntKind.i64 (Int.ofNat 8)=Value.int IntKind.i64 (Int.ofNat 8)],by kernel_rfl,(by refine mcons ?_ (mcons ?_ (mcons ?_ (mcons ?_ (mcons ?_ (mcons ?_ (mcons ?_ (mcons ?_ (mcons ?_ mnil))))))))<;>first|rfl|exact h0|exact h1|exact h2|exact h3|trivial|(exact nil_tab0 rfl))⟩
set_option maxRecDepth 100000 in
theorem dbkD_w0 (R:List Rw) (h0:(!allI 1 R.length (riseI R))=false) (h1:(!allI 0 R.length (isI R))=false) (h2:decide ((R.length:Int)>24)=false) (h3:R.length≤100000):∃ qs,wayO Id' ([⟨.us (.ext (.vw [true,false,false,false] R)),false⟩]:Mem Td).length [⟨.us (.ext (.vw [true,false,false,false] R)),false⟩,⟨.us (.ext (.tab (.bs (blksP R (nbR R))))),true⟩] (.tup [.one (.obj 1),.one (.v (.int .i64 0))]) ((runFn (⟨Try.prog,[(115,ctrF Id' C_drise hardD),(116,ctrF Id' C_ctf hardD)],[],dkHo,Id'.one,60⟩:Sy Td) [(6,(lpG Id' 59 (hdC (loopsC (bodyOf Try.f58)) 0) 1 [(0,.c (.one (.obj 1))),(4,.c (.one (.obj 2)))] [] [⟨.us (.ext (.vw [true,false,false,false] R)),false⟩,⟨.us (.ext (.vw [true,false,false,false] (R.drop (5 * 0)))),false⟩,⟨.us (.ext (.tab (.bs (blksP R 0)))),true⟩] (.leaf (.exit 1) [(4,.c (.one (.obj 2)))] [⟨.us (.ext (.vw [true,false,false,false] R)),false⟩,⟨.us (.ext (.vw [true,false,false,false] (R.drop (5 * nbR R)))),false⟩,⟨.us (.ext (.tab (.bs (blksP R (nbR R))))),true⟩])))] Try.f58 [.one (.obj 0)] [⟨.us (.ext (.vw [true,false,false,false] R)),false⟩]).al [false,false,false])=some qs∧∀ q∈qs,q:=
 ⟨[(!allI (1:Nat) R.length (riseI R))=false,R.length≤(100000:Nat),(!allI (1:Nat) R.length (riseI R))=false,R.length≤(100000:Nat),(!allI (0:Nat) R.length (isI R))=false,decide ((↑R.length:Int)>(24:Int))=false,Th.ext (Dk.vw [true,false,false,false] R)=Th.ext (Dk.vw [true,false,false,false] R),Th.ext (Dk.vw [true,false,false,false] R)=Th.ext (Dk.vw [true,false,false,false] R),∀ (w:World),Id'.holds (Th.ext (Dk.tab (TB.bs (blksP R (0:Nat))))) w nilV∧∀ (j:Nat),¬Id'.foot (Th.ext (Dk.tab (TB.bs (blksP R (0:Nat))))) w nilV j,Th.ext (Dk.vw [true,false,false,false] R)=Th.ext (Dk.vw [true,false,false,false] R),Th.ext (Dk.tab (TB.bs (Nat.brecOn.go (nbR R) (blksP._f R)).1))=Th.ext (Dk.tab (TB.bs (Nat.brecOn.go (nbR R) (blksP._f R)).1)),Value.int IntKind.i64 (Int.ofNat 0)=Value.int IntKind.i64 (Int.ofNat 0)],by kernel_rfl,(by refine mcons ?_ (mcons ?_ (mcons ?_ (mcons ?_ (mcons ?_ (mcons ?_ (mcons ?_ (mcons ?_ (mcons ?_ (mcons ?_ (mcons ?_ (mcons ?_ mnil)))))))))))<;>first|rfl|exact h0|exact h1|exact h2|exact h3|trivial|(exact nil_tab0 rfl))⟩
def okP (R:List Rw):Bool:=allI 1 R.length (riseI R)&&allI 0 R.length (isI R)
def dbE (R:List Rw):Int:=bif okP R then (bif decide ((R.length:Int)>24) then 8 else 0) else 2
def dbB (R:List Rw):List (List UInt8):=bif okP R&&!decide ((R.length:Int)>24) then blksP R (nbR R) else []
def C_dblocks:Ctr Td:=fun us sub=>match us,sub with
 |[.one (.obj 0)],[⟨.us (.ext (.vw [true,false,false,false] R)),false⟩]=>some ([R.length≤1000],.tup [.one (.obj 1),.one (.v (.int .i64 (dbE R)))],[⟨.us (.ext (.vw [true,false,false,false] R)),false⟩,⟨.us (.ext (.tab (.bs (dbB R)))),true⟩])
 |_,_=>none
set_option maxRecDepth 100000 in
theorem C_dblocks_ok:CtrOk Try.prog Id' 58 C_dblocks:=by
 intro us sub ps x sm h hp w e vs hM ha
 unfold C_dblocks at h
 split at h
 ·rename_i R
  simp only [Option.some.injEq,Prod.mk.injEq] at h
  obtain ⟨rfl,rfl,rfl⟩:=h
  have hL:R.length≤1000:=hp _ (List.mem_cons_self ..)
  cases h1:(!allI 1 R.length (riseI R)) with
  |true=>
   have h1':allI 1 R.length (riseI R)=false:=by simpa using h1
   have hv:dbE R=2:=by unfold dbE okP;rw [h1'];rfl
   have hb:dbB R=[]:=by unfold dbB okP;rw [h1'];rfl
   rw [hv,hb]
   exact ctr_way (I:=Id') (fun (W0:World) (G:Nat→Prop)=>SyOk.mk2 Try.mixed dkHo_ok (FnsR.cons (R_drise) (FnsR.cons (R_ctf) (FnsR.nil))) EqsOk.nil) rfl Try.func58 (by kernel_rfl) (fun _ _=>LpsOk.cons (by kernel_rfl) (dbo_lp R (by omega) _ rfl) (LpsOk.nil _)) (cs:=[true]) (by kernel_rfl) (dbkA_w0 R h1 (by omega)) w e vs hM ha
  |false=>
   have h1':allI 1 R.length (riseI R)=true:=by simpa using h1
   cases h2:(!allI 0 R.length (isI R)) with
   |true=>
    have h2':allI 0 R.length (isI R)=false:=by simpa using h2
    have hv:dbE R=2:=by unfold dbE okP;rw [h1',h2'];rfl
    have hb:dbB R=[]:=by unfold dbB okP;rw [h1',h2'];rfl
    rw [hv,hb]
    exact ctr_way (I:=Id') (fun (W0:World) (G:Nat→Prop)=>SyOk.mk2 Try.mixed dkHo_ok (FnsR.cons (R_drise) (FnsR.cons (R_ctf) (FnsR.nil))) EqsOk.nil) rfl Try.func58 (by kernel_rfl) (fun _ _=>LpsOk.cons (by kernel_rfl) (dbo_lp R (by omega) _ rfl) (LpsOk.nil _)) (cs:=[false,true]) (by kernel_rfl) (dbkB_w0 R h1 h2 (by omega)) w e vs hM ha
   |false=>
    have h2':allI 0 R.length (isI R)=true:=by simpa using h2
    cases h3:decide ((R.length:Int)>24) with
    |true=>
     have hv:dbE R=8:=by unfold dbE okP;rw [h1',h2',h3];rfl
     have hb:dbB R=[]:=by unfold dbB okP;rw [h1',h2',h3];rfl
     rw [hv,hb]
     exact ctr_way (I:=Id') (fun (W0:World) (G:Nat→Prop)=>SyOk.mk2 Try.mixed dkHo_ok (FnsR.cons (R_drise) (FnsR.cons (R_ctf) (FnsR.nil))) EqsOk.nil) rfl Try.func58 (by kernel_rfl) (fun _ _=>LpsOk.cons (by kernel_rfl) (dbo_lp R (by omega) _ rfl) (LpsOk.nil _)) (cs:=[false,false,true]) (by kernel_rfl) (dbkC_w0 R h1 h2 h3 (by omega)) w e vs hM ha
    |false=>
     have hv:dbE R=0:=by unfold dbE okP;rw [h1',h2',h3];rfl
     have hb:dbB R=blksP R (nbR R):=by unfold dbB okP;rw [h1',h2',h3];rfl
     rw [hv,hb]
     exact ctr_way (I:=Id') (fun (W0:World) (G:Nat→Prop)=>SyOk.mk2 Try.mixed dkHo_ok (FnsR.cons (R_drise) (FnsR.cons (R_ctf) (FnsR.nil))) EqsOk.nil) rfl Try.func58 (by kernel_rfl) (fun _ _=>LpsOk.cons (by kernel_rfl) (dbo_lp R (by omega) _ rfl) (LpsOk.nil _)) (cs:=[false,false,false]) (by kernel_rfl) (dbkD_w0 R h1 h2 h3 (by omega)) w e vs hM ha
 ·cases h
theorem R_dblocks:RowOk Try.prog Id' hardD 58 (ctrF Id' C_dblocks hardD):=ctrF_ok Try.call58 C_dblocks_ok
end Go.Proofs.Ytdenmoiaiemokaa
set_option linter.unusedVariables false
set_option linter.unusedSimpArgs false
namespace Go.Proofs.Ytdenmoiaiemokaa
open Go.RowKit
def nmB (l:List Bool) (nm:ByteArray):Nat→List Bool
 |0=>l
 |k+1=>nmB l nm k++bitsOf (IntKind.u64.wrap (chI nm (k:Int))).toNat 8
theorem nmB_len (l:List Bool) (nm:ByteArray):∀ k,(nmB l nm k).length=l.length+8 * k
 |0=>rfl
 |k+1=>by simp only [nmB,List.length_append,bitsOf_length,nmB_len l nm k];omega
end Go.Proofs.Ytdenmoiaiemokaa
set_option linter.unusedVariables false
set_option linter.unusedSimpArgs false
namespace Go.Proofs.Ytdenmoiaiemokaa
open Go.RowKit
def entB (l:List Bool) (r:Rw):List Bool:=nmB (l++bitsOf (IntKind.u64.wrap ((r.ss.getD 0 ⟨#[]⟩).size:Int)).toNat 5++bitsOf (IntKind.u64.wrap (r.is.getD 0 0)).toNat 6++bitsOf (IntKind.u64.wrap (r.is.getD 1 0)).toNat 31++bitsOf (IntKind.u64.wrap (r.is.getD 2 0)).toNat 2) (r.ss.getD 0 ⟨#[]⟩) 16
def entsB (R:List Rw):Nat→List Bool
 |0=>[]
 |k+1=>entB (entsB R k) (R.getD k Rw.zero)
theorem entB_len (l:List Bool) (r:Rw):(entB l r).length=l.length+172:=by
 unfold entB
 rw [nmB_len]
 simp only [List.length_append,bitsOf_length]
theorem entsB_len (R:List Rw):∀ k,(entsB R k).length=172 * k
 |0=>rfl
 |k+1=>by show (entB (entsB R k) _).length=_;rw [entB_len,entsB_len R k];omega
end Go.Proofs.Ytdenmoiaiemokaa
set_option linter.unusedVariables false
set_option linter.unusedSimpArgs false
namespace Go.Proofs.Ytdenmoiaiemokaa
open Go.RowKit
def padL (x:List UInt8) (k:Nat):List UInt8:=x++List.replicate k 0
end Go.Proofs.Ytdenmoiaiemokaa
set_option linter.unusedVariables false
set_option linter.unusedSimpArgs false
namespace Go.Proofs.Ytdenmoiaiemokaa
open Go.RowKit
def blkD (R:List Rw):List UInt8:=padL (packed (entsB R R.length)) (128 - (packed (entsB R R.length)).length)
end Go.Proofs.Ytdenmoiaiemokaa
set_option linter.unusedVariables false
set_option linter.unusedSimpArgs false
namespace Go.Proofs.Ytdenmoiaiemokaa
open Go.RowKit
def blksD (R:List Rw):Nat→List (List UInt8)
 |0=>[]
 |k+1=>blksD R k++[blkD ((R.drop (5 * k)).take 5)]
end Go.Proofs.Ytdenmoiaiemokaa
set_option linter.unusedVariables false
set_option linter.unusedSimpArgs false
namespace Go.Proofs.Ytdenmoiaiemokaa
open Go.RowKit
def rbB (R:List Rw):List (List UInt8):=bif allI 0 R.length (riseD R)&&!decide ((R.length:Int)>24) then blksD R (nbR R) else []
end Go.Proofs.Ytdenmoiaiemokaa
set_option linter.unusedVariables false
namespace Go.Proofs.Ytdenmoiaiemokaa
open Go.RowKit
theorem less_tri:∀ a b:List UInt8,(!Op.bytesLess a b)=(Op.bytesLess b a||b==a)
 |[],[]=>rfl
 |[],y::ys=>rfl
 |x::xs,[]=>rfl
 |x::xs,y::ys=>by
  have ih:=less_tri xs ys
  simp only [Op.bytesLess]
  by_cases h1:x<y
  ·simp [h1,UInt8.lt_asymm h1,UInt8.ne_of_lt h1,(UInt8.ne_of_lt h1).symm]
  ·by_cases h2:y<x
   ·simp [h1,h2,UInt8.ne_of_lt h2,(UInt8.ne_of_lt h2).symm]
   ·have:x=y:=UInt8.le_antisymm (UInt8.not_lt.1 h2) (UInt8.not_lt.1 h1)
    subst this
    simp [h1,ih]
theorem allI_iff {o n:Nat} {p:Int→Bool}:allI o n p=true↔∀ i:Int,(o:Int)≤i→i.toNat<n→p i=true:=by
 rcases allI_cases o n p with ⟨h,g⟩|⟨h,i,g1,g2,g3⟩
 ·exact ⟨fun _=>g,fun _=>h⟩
 ·refine ⟨fun e=>(by rw [h] at e;cases e),fun e=>?_⟩
  rw [e i g1 g2] at g3;cases g3
theorem riseD_is (R:List Rw) (i:Int):riseD R i=(isI R i&&(!decide (i>0)||riseI R i)):=by
 unfold riseD riseI
 rw [← less_tri]
 cases isI R i<;>cases decide (i>0)<;>simp
theorem okP_is (R:List Rw):okP R=allI 0 R.length (riseD R):=by
 rw [Bool.eq_iff_iff]
 unfold okP
 rw [Bool.and_eq_true,allI_iff,allI_iff,allI_iff]
 constructor
 ·rintro ⟨h1,h2⟩ i h0 hn
  rw [riseD_is,h2 i h0 hn,Bool.true_and]
  by_cases h:i>0
  ·rw [h1 i (by omega) hn];simp
  ·rw [decide_eq_false h];rfl
 ·intro h
  refine ⟨fun i h0 hn=>?_,fun i h0 hn=>?_⟩
  ·have:=h i (by omega) hn
   rw [riseD_is,Bool.and_eq_true,decide_eq_true (show i>0 by omega)] at this
   simpa using this.2
  ·have:=h i h0 hn
   rw [riseD_is,Bool.and_eq_true] at this
   exact this.1
end Go.Proofs.Ytdenmoiaiemokaa
set_option linter.unusedVariables false
namespace Go.Proofs.Ytdenmoiaiemokaa
open Go.RowKit
theorem put_fit {s:WS} {x n:Int} (he:s.err=0) (hf:fitsN x.toNat n):(s.put x n).bl=s.bl++bitsOf x.toNat n.toNat∧(s.put x n).err=0:=by
 simp only [WS.put,putL,putE]
 rw [if_pos ⟨he,hf⟩,if_neg (fun h=>h.2 hf)]
 exact ⟨rfl,he⟩
theorem chI_in (nm:ByteArray) (i:Int):0≤chI nm i∧chI nm i<256:=by
 unfold chI
 cases decide (i<(nm.size:Int)) with
 |true=>have:=(nm.data.toList.getD i.toNat 0).toNat_lt;simp only [cond_true];omega
 |false=>simp
theorem putN_fit {s:WS} (nm:ByteArray) (he:s.err=0):∀ k,(putN s nm k).bl=nmB s.bl nm k∧(putN s nm k).err=0
 |0=>⟨rfl,he⟩
 |k+1=>by
  obtain ⟨h1,h2⟩:=putN_fit nm he k
  have hc:=chI_in nm (k:Int)
  have h:=put_fit (x:=chI nm (k:Int)) (n:=8) h2 ⟨by decide,by decide,by show _<256;omega⟩
  refine ⟨?_,h.2⟩
  show ((putN s nm k).put (chI nm (k:Int)) 8).bl=nmB s.bl nm k++bitsOf (IntKind.u64.wrap (chI nm (k:Int))).toNat 8
  rw [h.1,h1,u64w_id (by omega)];rfl
theorem isE_in {nm:ByteArray} {a b c:Int} (h:isE nm a b c=true):nm.size<17∧(0<a∧a<41)∧(0≤b∧b<2147483648)∧(0<c∧c<3):=by
 unfold isE nameB at h
 simp only [Bool.and_eq_true,decide_eq_true_eq] at h
 omega
theorem putR_fit {s:WS} {r:Rw} (he:s.err=0) (h:isR r=true):(putR s r).bl=entB s.bl r∧(putR s r).err=0:=by
 obtain ⟨hn,ha,hb,hc⟩:=isE_in h
 have w1:=u64w_id (n:=((r.ss.getD 0 ⟨#[]⟩).size:Int)) (by omega)
 have w2:=u64w_id (n:=r.is.getD 0 0) (by omega)
 have w3:=u64w_id (n:=r.is.getD 1 0) (by omega)
 have w4:=u64w_id (n:=r.is.getD 2 0) (by omega)
 have p1:=put_fit (s:=s) (x:=IntKind.u64.wrap ((r.ss.getD 0 ⟨#[]⟩).size:Int)) (n:=5) he ⟨by decide,by decide,by rw [w1];show _<32;omega⟩
 have p2:=put_fit (x:=IntKind.u64.wrap (r.is.getD 0 0)) (n:=6) p1.2 ⟨by decide,by decide,by rw [w2];show _<64;omega⟩
 have p3:=put_fit (x:=IntKind.u64.wrap (r.is.getD 1 0)) (n:=31) p2.2 ⟨by decide,by decide,by rw [w3];show _<2147483648;omega⟩
 have p4:=put_fit (x:=IntKind.u64.wrap (r.is.getD 2 0)) (n:=2) p3.2 ⟨by decide,by decide,by rw [w4];show _<4;omega⟩
 have p5:=putN_fit (r.ss.getD 0 ⟨#[]⟩) p4.2 16
 refine ⟨?_,p5.2⟩
 show (putN _ _ 16).bl=_
 rw [p5.1,p4.1,p3.1,p2.1,p1.1];rfl
theorem putsW_fit {Y:List Rw} (h:∀ r∈Y,isR r=true):∀ k,k≤Y.length→(putsW .new Y k).bl=entsB Y k∧(putsW .new Y k).err=0
 |0,_=>⟨rfl,rfl⟩
 |k+1,hk=>by
  obtain ⟨h1,h2⟩:=putsW_fit h k (by omega)
  have hr:isR (Y.getD k Rw.zero)=true:=by
   rw [List.getD_eq_getElem?_getD,List.getElem?_eq_getElem (show k<Y.length by omega)]
   exact h _ (List.getElem_mem _)
  have p:=putR_fit (r:=Y.getD k Rw.zero) h2 hr
  refine ⟨?_,p.2⟩
  show (putR (putsW .new Y k) (Y.getD k Rw.zero)).bl=entB (entsB Y k) (Y.getD k Rw.zero)
  rw [p.1,h1]
theorem blk_is {Y:List Rw} (h:∀ r∈Y,isR r=true) (hl:Y.length≤5):blkP Y=blkD Y:=by
 obtain ⟨h1,h2⟩:=putsW_fit h Y.length (Nat.le_refl _)
 have ho:(putsW .new Y Y.length).out=packed (entsB Y Y.length):=by unfold WS.out;rw [if_pos h2,h1]
 have hn:=out_len Y hl
 unfold blkP blkD padL
 rw [w128 hl,ho]
 rw [ho] at hn
 congr 2
 omega
theorem blks_is {R:List Rw} (h:∀ r∈R,isR r=true):∀ k,blksP R k=blksD R k
 |0=>rfl
 |k+1=>by
  show blksP R k++_=blksD R k++_
  rw [blks_is h k,blk_is (fun r hr=>h r (List.mem_of_mem_drop (List.mem_of_mem_take hr))) (List.length_take_le ..)]
theorem dbB_is (R:List Rw):dbB R=rbB R:=by
 unfold dbB rbB
 rw [← okP_is]
 cases h:okP R with
 |false=>rfl
 |true=>
  rw [blks_is fun r hr=>?_]
  have h2:=(Bool.and_eq_true_iff.1 h).2
  obtain ⟨j,hj,rfl⟩:=List.getElem_of_mem hr
  have:=allI_iff.1 h2 (j:Int) (by omega) (by simpa using hj)
  unfold isI at this
  rw [Int.toNat_natCast,List.getD_eq_getElem?_getD,List.getElem?_eq_getElem hj] at this
  exact this
end Go.Proofs.Ytdenmoiaiemokaa
