/- W25 W26 W27 W28 W29 W30 W31 W32 W33 W34. -/
import Derived.Test.YtdenmoiaiemokaaW24p
set_option linter.unusedVariables false
set_option linter.unusedSimpArgs false
namespace Go.Proofs.Ytdenmoiaiemokaa
open Go.RowKit
set_option maxRecDepth 100000 in
theorem rpad_n (R:List Rw) (x y:List UInt8) (k:Nat) (f:Nat→Value) (h0:decide ((x.length:Int)<(128:Int))=true) (h1:x.length+[UInt8.ofNat (Int.toNat (0:Int))].length≤1000000) (h2:(0:Int)≤(0:Int)∧(0:Int)<(256:Int)) (h3:(x++[UInt8.ofNat (Int.toNat (0:Int))])=y):∃ qs,alN Id' 3 [(8,.c (.one (.obj 3)))] [⟨.us (.ext (.vw [true,false,false,false] R)),false⟩,⟨.dead,true⟩,⟨.dead,true⟩,⟨.us (.own y),true⟩] ((symC (⟨Try.prog,[],[],dkHo,Id'.one,60⟩:Sy Td) [] 73 (hdC (loopsC (bodyOf Try.f123)) 2) ⟨[(8,.c (.one (.obj 3)))]++anyB' (writesC (hdC (loopsC (bodyOf Try.f123)) 2)) ([]++tabV f 73),[⟨.us (.ext (.vw [true,false,false,false] R)),false⟩,⟨.dead,true⟩,⟨.dead,true⟩,⟨.us (.own x),true⟩],0⟩).al [true])=some qs∧∀ q∈qs,q:=
 ⟨[decide ((↑x.length:Int)<(128:Int))=true,x.length+[UInt8.ofNat (Int.toNat (0:Int))].length≤(1000000:Nat),(0:Int)≤(0:Int)∧(0:Int)<(256:Int),Th.ext (Dk.vw [true,false,false,false] R)=Th.ext (Dk.vw [true,false,false,false] R),(Th.own (x++[UInt8.ofNat (Int.toNat (0:Int))]):Td)=Th.own y],by kernel_rfl,(by refine mcons ?_ (mcons ?_ (mcons ?_ (mcons ?_ (mcons ?_ mnil))))<;>first|(exact congrArg Th.own h3)|exact h0|exact h1|exact h2|exact h3|rfl|trivial)⟩
set_option maxRecDepth 100000 in
theorem rpad_x (R:List Rw) (x y:List UInt8) (k:Nat) (f:Nat→Value) (h0:decide ((x.length:Int)<(128:Int))=false) (h1:x=y):∃ qs,alX Id' 3 4 [(8,.c (.one (.obj 3)))] [⟨.us (.ext (.vw [true,false,false,false] R)),false⟩,⟨.dead,true⟩,⟨.dead,true⟩,⟨.us (.own y),true⟩] ((symC (⟨Try.prog,[],[],dkHo,Id'.one,60⟩:Sy Td) [] 73 (hdC (loopsC (bodyOf Try.f123)) 2) ⟨[(8,.c (.one (.obj 3)))]++anyB' (writesC (hdC (loopsC (bodyOf Try.f123)) 2)) ([]++tabV f 73),[⟨.us (.ext (.vw [true,false,false,false] R)),false⟩,⟨.dead,true⟩,⟨.dead,true⟩,⟨.us (.own x),true⟩],0⟩).al [false])=some qs∧∀ q∈qs,q:=
 ⟨[decide ((↑x.length:Int)<(128:Int))=false,Th.ext (Dk.vw [true,false,false,false] R)=Th.ext (Dk.vw [true,false,false,false] R),(Th.own x:Td)=Th.own y],by kernel_rfl,(by refine mcons ?_ (mcons ?_ (mcons ?_ mnil))<;>first|(exact congrArg Th.own h1)|exact h0|exact h1|rfl|trivial)⟩
def padL (x:List UInt8) (k:Nat):List UInt8:=x++List.replicate k 0
theorem padL_len (x:List UInt8) (k:Nat):(padL x k).length=x.length+k:=by simp [padL]
theorem padL_succ (x:List UInt8) (k:Nat):padL x k++[UInt8.ofNat (Int.toNat (0:Int))]=padL x (k+1):=by
 unfold padL
 rw [List.append_assoc,List.replicate_succ'];rfl
set_option maxRecDepth 100000 in
theorem rpad_lp (R:List Rw) (x:List UInt8) {W0:World} {G:Nat→Prop} (S0:Sy Td) (hS0:S0.P=Try.prog):LoopSound S0 Id' W0 G 73 (hdC (loopsC (bodyOf Try.f123)) 2) (lpG Id' 73 (hdC (loopsC (bodyOf Try.f123)) 2) 3 [(8,.c (.one (.obj 3)))] [] [⟨.us (.ext (.vw [true,false,false,false] R)),false⟩,⟨.dead,true⟩,⟨.dead,true⟩,⟨.us (.own (padL x 0)),true⟩] (.leaf (.exit 4) [(8,.c (.one (.obj 3)))] [⟨.us (.ext (.vw [true,false,false,false] R)),false⟩,⟨.dead,true⟩,⟨.dead,true⟩,⟨.us (.own (padL x (128 - x.length))),true⟩])):=by
 refine lp_sound (V:=fun k=>[(8,.c (.one (.obj 3)))]) (M:=(fun k=>[⟨.us (.ext (.vw [true,false,false,false] R)),false⟩,⟨.dead,true⟩,⟨.dead,true⟩,⟨.us (.own (padL x k)),true⟩]:Nat→Mem Td)) (N:=128 - x.length) (Ux:=fun k x'=>match x' with|.exit 4=>some ([(8,.c (.one (.obj 3)))],([⟨.us (.ext (.vw [true,false,false,false] R)),false⟩,⟨.dead,true⟩,⟨.dead,true⟩,⟨.us (.own (padL x (128 - x.length))),true⟩]:Mem Td))|_=>none) (X:=fun _ _=>True) (J:=fun k=>k≤128 - x.length) (fun k=>by kernel_rfl) (Nat.zero_le _) (fun k hk hJ f=>?_) (fun K hK k x' U hk hU hX=>?_)
 ·rw [hS0]
  have hn:=padL_len x k
  cases hT:decide (((padL x k).length:Int)<(128:Int)) with
  |false=>
   have hke:k=128 - x.length:=by have:=of_decide_eq_false hT;omega
   exact rnd_xD (⟨Try.prog,[],[],dkHo,Id'.one,60⟩:Sy Td) rfl ((fun (W0:World) (G:Nat→Prop)=>SyOk.mk2 Try.mixed dkHo_ok (FnsR.nil) EqsOk.nil) W0 G) (rpad_x R (padL x k) (padL x (128 - x.length)) k f hT (by rw [hke])) rfl trivial
  |true=>
   have hk1:=of_decide_eq_true hT
   exact rnd_nD (⟨Try.prog,[],[],dkHo,Id'.one,60⟩:Sy Td) rfl ((fun (W0:World) (G:Nat→Prop)=>SyOk.mk2 Try.mixed dkHo_ok (FnsR.nil) EqsOk.nil) W0 G) (rpad_n R (padL x k) (padL x (k+1)) k f hT (by show _+1≤_;omega) ⟨by decide,by decide⟩ (padL_succ x k)) rfl rfl (by omega) (by omega)
 ·revert hU
  match x' with
  |.normal=>intro hU;cases hU
  |.ret=>intro hU;cases hU
  |.exit n=>
   intro hU
   by_cases h:n=4
   ·subst h;simp only [Option.some.injEq] at hU;subst hU;exact hK
   ·exfalso;split at hU
    ·rename_i he;cases he;exact h rfl
    ·cases hU
end Go.Proofs.Ytdenmoiaiemokaa
set_option linter.unusedVariables false
set_option linter.unusedSimpArgs false
namespace Go.Proofs.Ytdenmoiaiemokaa
open Go.RowKit
theorem nil_btsT {l:List Bool} (h:l=[]):∀ w,Id'.holds (Th.bts l:Td) w nilV∧∀ j,¬ Id'.foot (Th.bts l:Td) w nilV j:=by
 subst h
 exact fun w=>⟨⟨0,Nat.zero_le _,owns_nilV w 0 _ _⟩,fun j h=>by cases h⟩
theorem padL_zero (x:List UInt8):x=padL x 0:=(List.append_nil x).symm
set_option maxRecDepth 100000 in
theorem rblk_w0 (R:List Rw) (y:List UInt8) (h0:R.length≤1000) (h1:padL (packed (entsB R R.length)) (128 - (packed (entsB R R.length)).length)=y) (h2:(entsB R R.length).length≤1000000):∃ qs,wayO Id' ([⟨.us (.ext (.vw [true,false,false,false] R)),false⟩]:Mem Td).length [⟨.us (.ext (.vw [true,false,false,false] R)),false⟩,⟨.dead,true⟩,⟨.dead,true⟩,⟨.us (.own y),true⟩] (.c (.one (.obj 3))) ((runFn (⟨Try.prog,[F_rbits (ξ:=Dk) (hx:=hardDk),F_rbytes (ξ:=Dk) (hx:=hardDk)],[],dkHo,Id'.one,60⟩:Sy Td) [(3,(lpG Id' 73 (hdC (loopsC (bodyOf Try.f123)) 0) 1 [(4,.c (.one (.v (.int .i64 ((0:Nat):Int))))),(3,.c (.one (.obj 1)))] [(0,.c (.one (.obj 0)))] [⟨.us (.ext (.vw [true,false,false,false] R)),false⟩,⟨.us (.bts (entsB R 0)),true⟩] (.leaf (.exit 0) [(3,.c (.one (.obj 1)))] [⟨.us (.ext (.vw [true,false,false,false] R)),false⟩,⟨.us (.bts (entsB R R.length)),true⟩]))),(18,(lpG Id' 73 (hdC (loopsC (bodyOf Try.f123)) 2) 3 [(8,.c (.one (.obj 3)))] [] [⟨.us (.ext (.vw [true,false,false,false] R)),false⟩,⟨.dead,true⟩,⟨.dead,true⟩,⟨.us (.own (padL (packed (entsB R R.length)) 0)),true⟩] (.leaf (.exit 4) [(8,.c (.one (.obj 3)))] [⟨.us (.ext (.vw [true,false,false,false] R)),false⟩,⟨.dead,true⟩,⟨.dead,true⟩,⟨.us (.own (padL (packed (entsB R R.length)) (128 - (packed (entsB R R.length)).length))),true⟩])))] Try.f123 [.one (.obj 0)] [⟨.us (.ext (.vw [true,false,false,false] R)),false⟩]).al [])=some qs∧∀ q∈qs,q:=
 ⟨[Th.ext (Dk.vw [true,false,false,false] R)=Th.ext (Dk.vw [true,false,false,false] R),∀ (w:World),Id'.holds (Th.bts (entsB R (0:Nat))) w nilV∧∀ (j:Nat),¬Id'.foot (Th.bts (entsB R (0:Nat))) w nilV j,Value.int IntKind.i64 (Int.ofNat 0)=Value.int IntKind.i64 (Int.ofNat (0:Nat)),(entsB R R.length).length≤(1000000:Nat),Th.ext (Dk.vw [true,false,false,false] R)=Th.ext (Dk.vw [true,false,false,false] R),(Th.own (packed (entsB R R.length)):Td)=Th.own (padL (packed (entsB R R.length)) 0),Th.ext (Dk.vw [true,false,false,false] R)=Th.ext (Dk.vw [true,false,false,false] R),(Th.own (padL (packed (entsB R R.length)) (128 - (packed (entsB R R.length)).length)):Td)=Th.own y],by kernel_rfl,(mcons rfl (mcons (nil_btsT rfl) (mcons rfl (mcons h2 (mcons rfl (mcons (congrArg Th.own (padL_zero _)) (mcons rfl (mcons (congrArg Th.own h1) mnil))))))))⟩
def blkD (R:List Rw):List UInt8:=padL (packed (entsB R R.length)) (128 - (packed (entsB R R.length)).length)
def C_rblk:Ctr Td:=fun us sub=>match us,sub with
 |[.one (.obj 0)],[⟨.us (.ext (.vw [true,false,false,false] R)),false⟩]=>some ([R.length≤1000],.c (.one (.obj 3)),[⟨.us (.ext (.vw [true,false,false,false] R)),false⟩,⟨.dead,true⟩,⟨.dead,true⟩,⟨.us (.own (blkD R)),true⟩])
 |_,_=>none
set_option maxRecDepth 100000 in
theorem C_rblk_ok:CtrOk Try.prog Id' 123 C_rblk:=by
 intro us sub ps x sm h hp w e vs hM ha
 unfold C_rblk at h
 split at h
 ·rename_i R
  simp only [Option.some.injEq,Prod.mk.injEq] at h
  obtain ⟨rfl,rfl,rfl⟩:=h
  have hL:R.length≤1000:=hp _ (List.mem_cons_self ..)
  exact ctr_way (I:=Id') (fun (W0:World) (G:Nat→Prop)=>SyOk.mk2 Try.mixed dkHo_ok (FnsR.cons (F_rbits_ok (J:=dkI) (hx:=hardDk)) (FnsR.cons (F_rbytes_ok (J:=dkI) (hx:=hardDk)) (FnsR.nil))) EqsOk.nil) rfl Try.func123 (by kernel_rfl) (fun _ _=>LpsOk.cons (by kernel_rfl) (rbo_lp R hL _ rfl) (LpsOk.cons (by kernel_rfl) (rpad_lp R (packed (entsB R R.length)) _ rfl) (LpsOk.nil _))) (cs:=[]) (by kernel_rfl) (rblk_w0 R (blkD R) hL rfl (by rw [entsB_len];omega)) w e vs hM ha
 ·cases h
theorem R_rblk:RowOk Try.prog Id' hardD 123 (ctrF Id' C_rblk hardD):=ctrF_ok Try.call123 C_rblk_ok
end Go.Proofs.Ytdenmoiaiemokaa
set_option linter.unusedVariables false
set_option linter.unusedSimpArgs false
namespace Go.Proofs.Ytdenmoiaiemokaa
open Go.RowKit
def m5D (X:List Rw):Int:=bif decide ((X.length:Int)>(5:Int)) then (5:Int) else (X.length:Int)
theorem m5D_is (X:List Rw):m5D X=m5 X:=by
 unfold m5D m5
 by_cases h:(5:Int)<(X.length:Int)
 ·rw [if_pos h,decide_eq_true (show (X.length:Int)>5 from h)];rfl
 ·rw [if_neg h,decide_eq_false (show ¬ (X.length:Int)>5 from h)];rfl
set_option maxRecDepth 100000 in
theorem rbl_n (R X X2 Y:List Rw) (O O2:List (List UInt8)) (k:Nat) (f:Nat→Value) (h0:decide ((X.length:Int)>0)=true) (h1:(TB.bs O).n+(TB.bs [blkD (List.take ((m5D X).toNat - Int.toNat 0) (List.drop (Int.toNat 0) X))]).n≤100000) (h2:(List.take ((m5D X).toNat - Int.toNat 0) (List.drop (Int.toNat 0) X)).length≤1000) (h3:(0:Int)≤(0:Int)∧(0:Int)≤m5D X∧m5D X≤(X.length:Int)) (h4:(0:Int)≤m5D X∧m5D X≤(X.length:Int)∧(X.length:Int)≤(X.length:Int)) (h5:(List.take ((X.length:Int).toNat - (m5D X).toNat) (List.drop (m5D X).toNat X))=X2) (h6:O++[blkD (List.take ((m5D X).toNat - Int.toNat 0) (List.drop (Int.toNat 0) X))]=O2):∃ qs,alN Id' 1 [(0,.c (.one (.obj 1))),(4,.c (.one (.obj 2)))] [⟨.us (.ext (.vw [true,false,false,false] R)),false⟩,⟨.us (.ext (.vw [true,false,false,false] X2)),false⟩,⟨.us (.ext (.tab (.bs O2))),true⟩] ((symC (⟨Try.prog,[(123,ctrF Id' C_rblk hardD)],[],dkHo,Id'.one,60⟩:Sy Td) [] 30 (hdC (loopsC (bodyOf Try.f59)) 0) ⟨[(0,.c (.one (.obj 1))),(4,.c (.one (.obj 2)))]++anyB' (writesC (hdC (loopsC (bodyOf Try.f59)) 0)) ([]++tabV f 30),[⟨.us (.ext (.vw [true,false,false,false] R)),false⟩,⟨.us (.ext (.vw [true,false,false,false] X)),false⟩,⟨.us (.ext (.tab (.bs O))),true⟩],0⟩).al [true])=some qs∧∀ q∈qs,q:=
 ⟨[decide ((↑X.length:Int)>(0:Int))=true,(TB.bs O).n+(TB.bs [blkD (List.take ((bif decide ((↑X.length:Int)>(5:Int)) then (5:Int) else (↑X.length:Int)).toNat - Int.toNat (0:Int)) (List.drop (Int.toNat (0:Int)) X))]).n≤(100000:Nat),(List.take ((bif decide ((↑X.length:Int)>(5:Int)) then (5:Int) else (↑X.length:Int)).toNat - Int.toNat (0:Int)) (List.drop (Int.toNat (0:Int)) X)).length≤(1000:Nat),(0:Int)≤(0:Int)∧((0:Int)≤bif decide ((↑X.length:Int)>(5:Int)) then (5:Int) else (↑X.length:Int))∧(bif decide ((↑X.length:Int)>(5:Int)) then (5:Int) else (↑X.length:Int))≤(↑X.length:Int),((0:Int)≤bif decide ((↑X.length:Int)>(5:Int)) then (5:Int) else (↑X.length:Int))∧(bif decide ((↑X.length:Int)>(5:Int)) then (5:Int) else (↑X.length:Int))≤(↑X.length:Int)∧(↑X.length:Int)≤(↑X.length:Int),Th.ext (Dk.vw [true,false,false,false] R)=Th.ext (Dk.vw [true,false,false,false] R),(Th.ext (Dk.vw [true,false,false,false] (List.take ((X.length:Int).toNat - (m5D X).toNat) (List.drop (m5D X).toNat X))):Td)=Th.ext (Dk.vw [true,false,false,false] X2),(Th.ext (Dk.tab (TB.bs (O++[blkD (List.take ((m5D X).toNat - Int.toNat 0) (List.drop (Int.toNat 0) X))]))):Td)=Th.ext (Dk.tab (TB.bs O2))],by kernel_rfl,(mcons h0 (mcons h1 (mcons h2 (mcons h3 (mcons h4 (mcons rfl (mcons (congrArg (fun x=>(Th.ext (Dk.vw [true,false,false,false] x):Td)) h5) (mcons (congrArg (fun x=>(Th.ext (Dk.tab (TB.bs x)):Td)) h6) mnil))))))))⟩
set_option maxRecDepth 100000 in
theorem rbl_x (R X X2 Y:List Rw) (O O2:List (List UInt8)) (k:Nat) (f:Nat→Value) (h0:decide ((X.length:Int)>0)=false) (h1:X=X2) (h2:O=O2):∃ qs,alX Id' 1 0 [(4,.c (.one (.obj 2)))] [⟨.us (.ext (.vw [true,false,false,false] R)),false⟩,⟨.us (.ext (.vw [true,false,false,false] X2)),false⟩,⟨.us (.ext (.tab (.bs O2))),true⟩] ((symC (⟨Try.prog,[(123,ctrF Id' C_rblk hardD)],[],dkHo,Id'.one,60⟩:Sy Td) [] 30 (hdC (loopsC (bodyOf Try.f59)) 0) ⟨[(0,.c (.one (.obj 1))),(4,.c (.one (.obj 2)))]++anyB' (writesC (hdC (loopsC (bodyOf Try.f59)) 0)) ([]++tabV f 30),[⟨.us (.ext (.vw [true,false,false,false] R)),false⟩,⟨.us (.ext (.vw [true,false,false,false] X)),false⟩,⟨.us (.ext (.tab (.bs O))),true⟩],0⟩).al [false])=some qs∧∀ q∈qs,q:=
 ⟨[decide ((↑X.length:Int)>(0:Int))=false,Th.ext (Dk.vw [true,false,false,false] R)=Th.ext (Dk.vw [true,false,false,false] R),Th.ext (Dk.vw [true,false,false,false] X)=Th.ext (Dk.vw [true,false,false,false] X2),Th.ext (Dk.tab (TB.bs O))=Th.ext (Dk.tab (TB.bs O2))],by kernel_rfl,(by refine mcons ?_ (mcons ?_ (mcons ?_ (mcons ?_ mnil)))<;>first|(exact congrArg (fun x=>(Th.ext (Dk.vw [true,false,false,false] x):Td)) h1)|(exact congrArg (fun x=>(Th.ext (Dk.tab (TB.bs x)):Td)) h2)|rfl|exact h0|exact h1|exact h2|trivial)⟩
def blksD (R:List Rw):Nat→List (List UInt8)
 |0=>[]
 |k+1=>blksD R k++[blkD ((R.drop (5 * k)).take 5)]
theorem blksD_len (R:List Rw):∀ k,(blksD R k).length=k
 |0=>rfl
 |k+1=>by simp [blksD,blksD_len R k]
set_option maxRecDepth 100000 in
theorem rbl_lp (R:List Rw) (hR:R.length≤1000) {W0:World} {G:Nat→Prop} (S0:Sy Td) (hS0:S0.P=Try.prog):LoopSound S0 Id' W0 G 30 (hdC (loopsC (bodyOf Try.f59)) 0) (lpG Id' 30 (hdC (loopsC (bodyOf Try.f59)) 0) 1 [(0,.c (.one (.obj 1))),(4,.c (.one (.obj 2)))] [] [⟨.us (.ext (.vw [true,false,false,false] R)),false⟩,⟨.us (.ext (.vw [true,false,false,false] (R.drop (5 * 0)))),false⟩,⟨.us (.ext (.tab (.bs (blksD R 0)))),true⟩] (.leaf (.exit 0) [(4,.c (.one (.obj 2)))] [⟨.us (.ext (.vw [true,false,false,false] R)),false⟩,⟨.us (.ext (.vw [true,false,false,false] (R.drop (5 * nbR R)))),false⟩,⟨.us (.ext (.tab (.bs (blksD R (nbR R))))),true⟩])):=by
 refine lp_sound (V:=fun k=>[(0,.c (.one (.obj 1))),(4,.c (.one (.obj 2)))]) (M:=(fun k=>[⟨.us (.ext (.vw [true,false,false,false] R)),false⟩,⟨.us (.ext (.vw [true,false,false,false] (R.drop (5 * k)))),false⟩,⟨.us (.ext (.tab (.bs (blksD R k)))),true⟩]:Nat→Mem Td)) (N:=nbR R) (Ux:=fun k x=>match x with|.exit 0=>some ([(4,.c (.one (.obj 2)))],([⟨.us (.ext (.vw [true,false,false,false] R)),false⟩,⟨.us (.ext (.vw [true,false,false,false] (R.drop (5 * nbR R)))),false⟩,⟨.us (.ext (.tab (.bs (blksD R (nbR R))))),true⟩]:Mem Td))|_=>none) (X:=fun _ _=>True) (J:=fun k=>k≤nbR R) (fun k=>by kernel_rfl) (Nat.zero_le _) (fun k hk hJ f=>?_) (fun K hK k x U hk hU hX=>?_)
 ·rw [hS0]
  have hXl:(R.drop (5 * k)).length=R.length - 5 * k:=List.length_drop ..
  cases hT:decide (((R.drop (5 * k)).length:Int)>0) with
  |false=>
   have hke:k=nbR R:=by have:=of_decide_eq_false hT;unfold nbR at hJ ⊢;omega
   exact rnd_xD (⟨Try.prog,[(123,ctrF Id' C_rblk hardD)],[],dkHo,Id'.one,60⟩:Sy Td) rfl ((fun (W0:World) (G:Nat→Prop)=>SyOk.mk2 Try.mixed dkHo_ok (FnsR.cons (R_rblk) (FnsR.nil)) EqsOk.nil) W0 G) (rbl_x R (R.drop (5 * k)) (R.drop (5 * nbR R)) [] (blksD R k) (blksD R (nbR R)) k f hT (by rw [hke]) (by rw [hke])) rfl trivial
  |true=>
   have hk1:=of_decide_eq_true hT
   have hk2:k<nbR R:=by unfold nbR at hJ ⊢;omega
   have hm:=m5_le (R.drop (5 * k))
   have ht:=take_m5 (R.drop (5 * k))
   have hd:=drop_m5 (R.drop (5 * k))
   rw [← m5D_is] at hm ht hd
   have hbl:(blksD R k).length=k:=blksD_len R k
   exact rnd_nD (⟨Try.prog,[(123,ctrF Id' C_rblk hardD)],[],dkHo,Id'.one,60⟩:Sy Td) rfl ((fun (W0:World) (G:Nat→Prop)=>SyOk.mk2 Try.mixed dkHo_ok (FnsR.cons (R_rblk) (FnsR.nil)) EqsOk.nil) W0 G) (rbl_n R (R.drop (5 * k)) (R.drop (5 * (k+1))) [] (blksD R k) (blksD R (k+1)) k f hT (by
    show (blksD R k).length+1≤100000
    unfold nbR at hk2;omega) (by rw [ht];have:=List.length_take_le 5 (R.drop (5 * k));omega) ⟨Int.le_refl _,hm.1,hm.2⟩ ⟨hm.1,hm.2,Int.le_refl _⟩ (by rw [hd,List.drop_drop,Nat.mul_succ]) (by rw [ht];rfl)) rfl rfl hk2 (by omega)
 ·revert hU
  match x with
  |.exit 0=>intro hU;simp only [Option.some.injEq] at hU;subst hU;exact hK
  |.normal=>intro hU;cases hU
  |.ret=>intro hU;cases hU
  |.exit (n+1)=>intro hU;cases hU
end Go.Proofs.Ytdenmoiaiemokaa
set_option linter.unusedVariables false
set_option linter.unusedSimpArgs false
namespace Go.Proofs.Ytdenmoiaiemokaa
open Go.RowKit
set_option maxRecDepth 100000 in
theorem rbkA_w0 (R:List Rw) (h0:(!allI 0 R.length (riseD R))=true) (h1:R.length≤100000) (h2:NmsOk R):∃ qs,wayO Id' ([⟨.us (.ext (.vw [true,false,false,false] R)),false⟩]:Mem Td).length [⟨.us (.ext (.vw [true,false,false,false] R)),false⟩,⟨.us (.ext (.tab (.bs []))),true⟩] (.tup [.one (.obj 1),.one (.v (.int .i64 2))]) ((runFn (⟨Try.prog,[(122,ctrF Id' C_rrise hardD),(123,ctrF Id' C_rblk hardD)],[],dkHo,Id'.one,60⟩:Sy Td) [(6,(lpG Id' 30 (hdC (loopsC (bodyOf Try.f59)) 0) 1 [(0,.c (.one (.obj 1))),(4,.c (.one (.obj 2)))] [] [⟨.us (.ext (.vw [true,false,false,false] R)),false⟩,⟨.us (.ext (.vw [true,false,false,false] (R.drop (5 * 0)))),false⟩,⟨.us (.ext (.tab (.bs (blksD R 0)))),true⟩] (.leaf (.exit 0) [(4,.c (.one (.obj 2)))] [⟨.us (.ext (.vw [true,false,false,false] R)),false⟩,⟨.us (.ext (.vw [true,false,false,false] (R.drop (5 * nbR R)))),false⟩,⟨.us (.ext (.tab (.bs (blksD R (nbR R))))),true⟩])))] Try.f59 [.one (.obj 0)] [⟨.us (.ext (.vw [true,false,false,false] R)),false⟩]).al [true])=some qs∧∀ q∈qs,q:=
 ⟨[R.length≤(100000:Nat),NmsOk R,(!allI (0:Nat) R.length (riseD R))=true,Th.ext (Dk.vw [true,false,false,false] R)=Th.ext (Dk.vw [true,false,false,false] R),∀ (w:World),Id'.holds (Th.ext (Dk.tab (TB.bs []))) w nilV∧∀ (j:Nat),¬Id'.foot (Th.ext (Dk.tab (TB.bs []))) w nilV j,Value.int IntKind.i64 (Int.ofNat 2)=Value.int IntKind.i64 (Int.ofNat 2)],by kernel_rfl,(by refine mcons ?_ (mcons ?_ (mcons ?_ (mcons ?_ (mcons ?_ (mcons ?_ mnil)))))<;>first|rfl|exact h0|exact h1|exact h2|trivial|(exact nil_tab0 rfl))⟩
set_option maxRecDepth 100000 in
theorem rbkC_w0 (R:List Rw) (h0:(!allI 0 R.length (riseD R))=false) (h1:decide ((R.length:Int)>24)=true) (h2:R.length≤100000) (h3:NmsOk R):∃ qs,wayO Id' ([⟨.us (.ext (.vw [true,false,false,false] R)),false⟩]:Mem Td).length [⟨.us (.ext (.vw [true,false,false,false] R)),false⟩,⟨.us (.ext (.tab (.bs []))),true⟩] (.tup [.one (.obj 1),.one (.v (.int .i64 8))]) ((runFn (⟨Try.prog,[(122,ctrF Id' C_rrise hardD),(123,ctrF Id' C_rblk hardD)],[],dkHo,Id'.one,60⟩:Sy Td) [(6,(lpG Id' 30 (hdC (loopsC (bodyOf Try.f59)) 0) 1 [(0,.c (.one (.obj 1))),(4,.c (.one (.obj 2)))] [] [⟨.us (.ext (.vw [true,false,false,false] R)),false⟩,⟨.us (.ext (.vw [true,false,false,false] (R.drop (5 * 0)))),false⟩,⟨.us (.ext (.tab (.bs (blksD R 0)))),true⟩] (.leaf (.exit 0) [(4,.c (.one (.obj 2)))] [⟨.us (.ext (.vw [true,false,false,false] R)),false⟩,⟨.us (.ext (.vw [true,false,false,false] (R.drop (5 * nbR R)))),false⟩,⟨.us (.ext (.tab (.bs (blksD R (nbR R))))),true⟩])))] Try.f59 [.one (.obj 0)] [⟨.us (.ext (.vw [true,false,false,false] R)),false⟩]).al [false,true])=some qs∧∀ q∈qs,q:=
 ⟨[R.length≤(100000:Nat),NmsOk R,(!allI (0:Nat) R.length (riseD R))=false,decide ((↑R.length:Int)>(24:Int))=true,Th.ext (Dk.vw [true,false,false,false] R)=Th.ext (Dk.vw [true,false,false,false] R),∀ (w:World),Id'.holds (Th.ext (Dk.tab (TB.bs []))) w nilV∧∀ (j:Nat),¬Id'.foot (Th.ext (Dk.tab (TB.bs []))) w nilV j,Value.int IntKind.i64 (Int.ofNat 8)=Value.int IntKind.i64 (Int.ofNat 8)],by kernel_rfl,(by refine mcons ?_ (mcons ?_ (mcons ?_ (mcons ?_ (mcons ?_ (mcons ?_ (mcons ?_ mnil))))))<;>first|rfl|exact h0|exact h1|exact h2|exact h3|trivial|(exact nil_tab0 rfl))⟩
set_option maxRecDepth 100000 in
theorem rbkD_w0 (R:List Rw) (h0:(!allI 0 R.length (riseD R))=false) (h1:decide ((R.length:Int)>24)=false) (h2:R.length≤100000) (h3:NmsOk R):∃ qs,wayO Id' ([⟨.us (.ext (.vw [true,false,false,false] R)),false⟩]:Mem Td).length [⟨.us (.ext (.vw [true,false,false,false] R)),false⟩,⟨.us (.ext (.tab (.bs (blksD R (nbR R))))),true⟩] (.tup [.one (.obj 1),.one (.v (.int .i64 0))]) ((runFn (⟨Try.prog,[(122,ctrF Id' C_rrise hardD),(123,ctrF Id' C_rblk hardD)],[],dkHo,Id'.one,60⟩:Sy Td) [(6,(lpG Id' 30 (hdC (loopsC (bodyOf Try.f59)) 0) 1 [(0,.c (.one (.obj 1))),(4,.c (.one (.obj 2)))] [] [⟨.us (.ext (.vw [true,false,false,false] R)),false⟩,⟨.us (.ext (.vw [true,false,false,false] (R.drop (5 * 0)))),false⟩,⟨.us (.ext (.tab (.bs (blksD R 0)))),true⟩] (.leaf (.exit 0) [(4,.c (.one (.obj 2)))] [⟨.us (.ext (.vw [true,false,false,false] R)),false⟩,⟨.us (.ext (.vw [true,false,false,false] (R.drop (5 * nbR R)))),false⟩,⟨.us (.ext (.tab (.bs (blksD R (nbR R))))),true⟩])))] Try.f59 [.one (.obj 0)] [⟨.us (.ext (.vw [true,false,false,false] R)),false⟩]).al [false,false])=some qs∧∀ q∈qs,q:=
 ⟨[R.length≤(100000:Nat),NmsOk R,(!allI (0:Nat) R.length (riseD R))=false,decide ((↑R.length:Int)>(24:Int))=false,Th.ext (Dk.vw [true,false,false,false] R)=Th.ext (Dk.vw [true,false,false,false] R),Th.ext (Dk.vw [true,false,false,false] R)=Th.ext (Dk.vw [true,false,false,false] R),∀ (w:World),Id'.holds (Th.ext (Dk.tab (TB.bs (blksD R (0:Nat))))) w nilV∧∀ (j:Nat),¬Id'.foot (Th.ext (Dk.tab (TB.bs (blksD R (0:Nat))))) w nilV j,Th.ext (Dk.vw [true,false,false,false] R)=Th.ext (Dk.vw [true,false,false,false] R),Th.ext (Dk.tab (TB.bs (Nat.brecOn.go (nbR R) (blksD._f R)).1))=Th.ext (Dk.tab (TB.bs (Nat.brecOn.go (nbR R) (blksD._f R)).1)),Value.int IntKind.i64 (Int.ofNat 0)=Value.int IntKind.i64 (Int.ofNat 0)],by kernel_rfl,(by refine mcons ?_ (mcons ?_ (mcons ?_ (mcons ?_ (mcons ?_ (mcons ?_ (mcons ?_ (mcons ?_ (mcons ?_ (mcons ?_ mnil)))))))))<;>first|rfl|exact h0|exact h1|exact h2|exact h3|trivial|(exact nil_tab0 rfl))⟩
def rbE (R:List Rw):Int:=bif allI 0 R.length (riseD R) then (bif decide ((R.length:Int)>24) then 8 else 0) else 2
def rbB (R:List Rw):List (List UInt8):=bif allI 0 R.length (riseD R)&&!decide ((R.length:Int)>24) then blksD R (nbR R) else []
def C_rblocks:Ctr Td:=fun us sub=>match us,sub with
 |[.one (.obj 0)],[⟨.us (.ext (.vw [true,false,false,false] R)),false⟩]=>some ([R.length≤1000,NmsOk R],.tup [.one (.obj 1),.one (.v (.int .i64 (rbE R)))],[⟨.us (.ext (.vw [true,false,false,false] R)),false⟩,⟨.us (.ext (.tab (.bs (rbB R)))),true⟩])
 |_,_=>none
set_option maxRecDepth 100000 in
theorem C_rblocks_ok:CtrOk Try.prog Id' 59 C_rblocks:=by
 intro us sub ps x sm h hp w e vs hM ha
 unfold C_rblocks at h
 split at h
 ·rename_i R
  simp only [Option.some.injEq,Prod.mk.injEq] at h
  obtain ⟨rfl,rfl,rfl⟩:=h
  have hL:R.length≤1000:=hp _ (List.mem_cons_self ..)
  have hN:NmsOk R:=hp _ (List.mem_cons_of_mem _ (List.mem_cons_self ..))
  cases h1:(!allI 0 R.length (riseD R)) with
  |true=>
   have h1':allI 0 R.length (riseD R)=false:=by simpa using h1
   have hv:rbE R=2:=by unfold rbE;rw [h1'];rfl
   have hb:rbB R=[]:=by unfold rbB;rw [h1'];rfl
   rw [hv,hb]
   exact ctr_way (I:=Id') (fun (W0:World) (G:Nat→Prop)=>SyOk.mk2 Try.mixed dkHo_ok (FnsR.cons (R_rrise) (FnsR.cons (R_rblk) (FnsR.nil))) EqsOk.nil) rfl Try.func59 (by kernel_rfl) (fun _ _=>LpsOk.cons (by kernel_rfl) (rbl_lp R (by omega) _ rfl) (LpsOk.nil _)) (cs:=[true]) (by kernel_rfl) (rbkA_w0 R h1 (by omega) hN) w e vs hM ha
  |false=>
   have h1':allI 0 R.length (riseD R)=true:=by simpa using h1
   cases h3:decide ((R.length:Int)>24) with
   |true=>
    have hv:rbE R=8:=by unfold rbE;rw [h1',h3];rfl
    have hb:rbB R=[]:=by unfold rbB;rw [h1',h3];rfl
    rw [hv,hb]
    exact ctr_way (I:=Id') (fun (W0:World) (G:Nat→Prop)=>SyOk.mk2 Try.mixed dkHo_ok (FnsR.cons (R_rrise) (FnsR.cons (R_rblk) (FnsR.nil))) EqsOk.nil) rfl Try.func59 (by kernel_rfl) (fun _ _=>LpsOk.cons (by kernel_rfl) (rbl_lp R (by omega) _ rfl) (LpsOk.nil _)) (cs:=[false,true]) (by kernel_rfl) (rbkC_w0 R h1 h3 (by omega) hN) w e vs hM ha
   |false=>
    have hv:rbE R=0:=by unfold rbE;rw [h1',h3];rfl
    have hb:rbB R=blksD R (nbR R):=by unfold rbB;rw [h1',h3];rfl
    rw [hv,hb]
    exact ctr_way (I:=Id') (fun (W0:World) (G:Nat→Prop)=>SyOk.mk2 Try.mixed dkHo_ok (FnsR.cons (R_rrise) (FnsR.cons (R_rblk) (FnsR.nil))) EqsOk.nil) rfl Try.func59 (by kernel_rfl) (fun _ _=>LpsOk.cons (by kernel_rfl) (rbl_lp R (by omega) _ rfl) (LpsOk.nil _)) (cs:=[false,false]) (by kernel_rfl) (rbkD_w0 R h1 h3 (by omega) hN) w e vs hM ha
 ·cases h
end Go.Proofs.Ytdenmoiaiemokaa
set_option linter.unusedVariables false
namespace Go.Proofs.Ytdenmoiaiemokaa
open Go.RowKit
theorem less_tri:∀ a b:List UInt8,(!Op.bytesLess a b)=(Op.bytesLess b a||b==a)
 |[],[]=>rfl
 |[],y::ys=>rfl
 |x::xs,[]=>rfl
 |x::xs,y::ys=>by
  have ih:=less_tri xs ys
  simp only [Op.bytesLess]
  by_cases h1:x<y
  ·simp [h1,UInt8.lt_asymm h1,UInt8.ne_of_lt h1,(UInt8.ne_of_lt h1).symm]
  ·by_cases h2:y<x
   ·simp [h1,h2,UInt8.ne_of_lt h2,(UInt8.ne_of_lt h2).symm]
   ·have:x=y:=UInt8.le_antisymm (UInt8.not_lt.1 h2) (UInt8.not_lt.1 h1)
    subst this
    simp [h1,ih]
theorem allI_iff {o n:Nat} {p:Int→Bool}:allI o n p=true↔∀ i:Int,(o:Int)≤i→i.toNat<n→p i=true:=by
 rcases allI_cases o n p with ⟨h,g⟩|⟨h,i,g1,g2,g3⟩
 ·exact ⟨fun _=>g,fun _=>h⟩
 ·refine ⟨fun e=>(by rw [h] at e;cases e),fun e=>?_⟩
  rw [e i g1 g2] at g3;cases g3
theorem riseD_is (R:List Rw) (i:Int):riseD R i=(isI R i&&(!decide (i>0)||riseI R i)):=by
 unfold riseD riseI
 rw [← less_tri]
 cases isI R i<;>cases decide (i>0)<;>simp
theorem okP_is (R:List Rw):okP R=allI 0 R.length (riseD R):=by
 rw [Bool.eq_iff_iff]
 unfold okP
 rw [Bool.and_eq_true,allI_iff,allI_iff,allI_iff]
 constructor
 ·rintro ⟨h1,h2⟩ i h0 hn
  rw [riseD_is,h2 i h0 hn,Bool.true_and]
  by_cases h:i>0
  ·rw [h1 i (by omega) hn];simp
  ·rw [decide_eq_false h];rfl
 ·intro h
  refine ⟨fun i h0 hn=>?_,fun i h0 hn=>?_⟩
  ·have:=h i (by omega) hn
   rw [riseD_is,Bool.and_eq_true,decide_eq_true (show i>0 by omega)] at this
   simpa using this.2
  ·have:=h i h0 hn
   rw [riseD_is,Bool.and_eq_true] at this
   exact this.1
theorem dbE_is (R:List Rw):dbE R=rbE R:=by unfold dbE rbE;rw [okP_is]
end Go.Proofs.Ytdenmoiaiemokaa
set_option linter.unusedVariables false
namespace Go.Proofs.Ytdenmoiaiemokaa
open Go.RowKit
theorem put_fit {s:WS} {x n:Int} (he:s.err=0) (hf:fitsN x.toNat n):(s.put x n).bl=s.bl++bitsOf x.toNat n.toNat∧(s.put x n).err=0:=by
 simp only [WS.put,putL,putE]
 rw [if_pos ⟨he,hf⟩,if_neg (fun h=>h.2 hf)]
 exact ⟨rfl,he⟩
theorem chI_in (nm:ByteArray) (i:Int):0≤chI nm i∧chI nm i<256:=by
 unfold chI
 cases decide (i<(nm.size:Int)) with
 |true=>have:=(nm.data.toList.getD i.toNat 0).toNat_lt;simp only [cond_true];omega
 |false=>simp
theorem putN_fit {s:WS} (nm:ByteArray) (he:s.err=0):∀ k,(putN s nm k).bl=nmB s.bl nm k∧(putN s nm k).err=0
 |0=>⟨rfl,he⟩
 |k+1=>by
  obtain ⟨h1,h2⟩:=putN_fit nm he k
  have hc:=chI_in nm (k:Int)
  have h:=put_fit (x:=chI nm (k:Int)) (n:=8) h2 ⟨by decide,by decide,by show _<256;omega⟩
  refine ⟨?_,h.2⟩
  show ((putN s nm k).put (chI nm (k:Int)) 8).bl=nmB s.bl nm k++bitsOf (IntKind.u64.wrap (chI nm (k:Int))).toNat 8
  rw [h.1,h1,u64w_id (by omega)];rfl
theorem isE_in {nm:ByteArray} {a b c:Int} (h:isE nm a b c=true):nm.size<17∧(0<a∧a<41)∧(0≤b∧b<2147483648)∧(0<c∧c<3):=by
 unfold isE nameB at h
 simp only [Bool.and_eq_true,decide_eq_true_eq] at h
 omega
theorem putR_fit {s:WS} {r:Rw} (he:s.err=0) (h:isR r=true):(putR s r).bl=entB s.bl r∧(putR s r).err=0:=by
 obtain ⟨hn,ha,hb,hc⟩:=isE_in h
 have w1:=u64w_id (n:=((r.ss.getD 0 ⟨#[]⟩).size:Int)) (by omega)
 have w2:=u64w_id (n:=r.is.getD 0 0) (by omega)
 have w3:=u64w_id (n:=r.is.getD 1 0) (by omega)
 have w4:=u64w_id (n:=r.is.getD 2 0) (by omega)
 have p1:=put_fit (s:=s) (x:=IntKind.u64.wrap ((r.ss.getD 0 ⟨#[]⟩).size:Int)) (n:=5) he ⟨by decide,by decide,by rw [w1];show _<32;omega⟩
 have p2:=put_fit (x:=IntKind.u64.wrap (r.is.getD 0 0)) (n:=6) p1.2 ⟨by decide,by decide,by rw [w2];show _<64;omega⟩
 have p3:=put_fit (x:=IntKind.u64.wrap (r.is.getD 1 0)) (n:=31) p2.2 ⟨by decide,by decide,by rw [w3];show _<2147483648;omega⟩
 have p4:=put_fit (x:=IntKind.u64.wrap (r.is.getD 2 0)) (n:=2) p3.2 ⟨by decide,by decide,by rw [w4];show _<4;omega⟩
 have p5:=putN_fit (r.ss.getD 0 ⟨#[]⟩) p4.2 16
 refine ⟨?_,p5.2⟩
 show (putN _ _ 16).bl=_
 rw [p5.1,p4.1,p3.1,p2.1,p1.1];rfl
theorem putsW_fit {Y:List Rw} (h:∀ r∈Y,isR r=true):∀ k,k≤Y.length→(putsW .new Y k).bl=entsB Y k∧(putsW .new Y k).err=0
 |0,_=>⟨rfl,rfl⟩
 |k+1,hk=>by
  obtain ⟨h1,h2⟩:=putsW_fit h k (by omega)
  have hr:isR (Y.getD k Rw.zero)=true:=by
   rw [List.getD_eq_getElem?_getD,List.getElem?_eq_getElem (show k<Y.length by omega)]
   exact h _ (List.getElem_mem _)
  have p:=putR_fit (r:=Y.getD k Rw.zero) h2 hr
  refine ⟨?_,p.2⟩
  show (putR (putsW .new Y k) (Y.getD k Rw.zero)).bl=entB (entsB Y k) (Y.getD k Rw.zero)
  rw [p.1,h1]
theorem blk_is {Y:List Rw} (h:∀ r∈Y,isR r=true) (hl:Y.length≤5):blkP Y=blkD Y:=by
 obtain ⟨h1,h2⟩:=putsW_fit h Y.length (Nat.le_refl _)
 have ho:(putsW .new Y Y.length).out=packed (entsB Y Y.length):=by unfold WS.out;rw [if_pos h2,h1]
 have hn:=out_len Y hl
 unfold blkP blkD padL
 rw [w128 hl,ho]
 rw [ho] at hn
 congr 2
 omega
theorem blks_is {R:List Rw} (h:∀ r∈R,isR r=true):∀ k,blksP R k=blksD R k
 |0=>rfl
 |k+1=>by
  show blksP R k++_=blksD R k++_
  rw [blks_is h k,blk_is (fun r hr=>h r (List.mem_of_mem_drop (List.mem_of_mem_take hr))) (List.length_take_le ..)]
theorem dbB_is (R:List Rw):dbB R=rbB R:=by
 unfold dbB rbB
 rw [← okP_is]
 cases h:okP R with
 |false=>rfl
 |true=>
  rw [blks_is fun r hr=>?_]
  have h2:=(Bool.and_eq_true_iff.1 h).2
  obtain ⟨j,hj,rfl⟩:=List.getElem_of_mem hr
  have:=allI_iff.1 h2 (j:Int) (by omega) (by simpa using hj)
  unfold isI at this
  rw [Int.toNat_natCast,List.getD_eq_getElem?_getD,List.getElem?_eq_getElem hj] at this
  exact this
end Go.Proofs.Ytdenmoiaiemokaa
set_option linter.unusedVariables false
set_option linter.unusedSimpArgs false
namespace Go.Proofs.Ytdenmoiaiemokaa
open Go.RowKit
set_option maxRecDepth 100000 in
theorem few_n (R X Y:List Rw) (n:Int) (i i2:Int) (k:Nat) (f:Nat→Value) (h0:(decide (i<(R.length:Int))&&decide (i<n))=true) (h1:IntKind.i64.wrap (i+1)=i2) (h2:0≤i∧i.toNat<R.length) (h3:X.length+1≤100000) (h4:X++[⟨[(R.getD i.toNat Rw.zero).is.getD 0 0,(R.getD i.toNat Rw.zero).is.getD 1 0,(R.getD i.toNat Rw.zero).is.getD 2 0],[shortT ((R.getD i.toNat Rw.zero).ss.getD 0 ⟨#[]⟩) 20]⟩]=Y):∃ qs,alN Id' 1 [(6,.c (.one (.v (.int .i64 i2)))),(5,.c (.one (.obj 1)))] [⟨.us (.ext (.vw [true,false,false,false] R)),false⟩,⟨.us (.ext (.flat (.rw 109 [true,false,false,false] Y))),true⟩] ((symC (⟨Try.prog,[F_rshort (ξ:=Dk)],[],dkHo,Id'.one,60⟩:Sy Td) [] 32 (hdC (loopsC (bodyOf Try.f57)) 0) ⟨[(6,.c (.one (.v (.int .i64 i)))),(5,.c (.one (.obj 1)))]++anyB' (writesC (hdC (loopsC (bodyOf Try.f57)) 0)) ([(0,.c (.one (.obj 0))),(1,.c (.one (.v (.int .i64 n))))]++tabV f 32),[⟨.us (.ext (.vw [true,false,false,false] R)),false⟩,⟨.us (.ext (.flat (.rw 109 [true,false,false,false] X))),true⟩],0⟩).al [true])=some qs∧∀ q∈qs,q:=
 ⟨[(decide (i<(↑R.length:Int))&&decide (i<n))=true,(0:Int)≤i∧i.toNat<R.length,(20:Nat)≤(9223372036854775807:Nat),X.length+[Rw.mk [(R.getD i.toNat Rw.zero).is.getD (0:Nat) (0:Int),(R.getD i.toNat Rw.zero).is.getD ((0:Nat)+(1:Nat)) (0:Int),(R.getD i.toNat Rw.zero).is.getD ((0:Nat)+(1:Nat)+(1:Nat)) (0:Int)] [shortT ((R.getD i.toNat Rw.zero).ss.getD (0:Nat) (ByteArray.mk #[])) 20]].length≤(100000:Nat),Th.ext (Dk.vw [true,false,false,false] R)=Th.ext (Dk.vw [true,false,false,false] R),(Th.ext (Dk.flat (FL.rw 109 [true,false,false,false] (X++[⟨[(R.getD i.toNat Rw.zero).is.getD 0 0,(R.getD i.toNat Rw.zero).is.getD 1 0,(R.getD i.toNat Rw.zero).is.getD 2 0],[shortT ((R.getD i.toNat Rw.zero).ss.getD 0 ⟨#[]⟩) 20]⟩]))):Td)=Th.ext (Dk.flat (FL.rw 109 [true,false,false,false] Y)),Value.int IntKind.i64 (IntKind.i64.wrap (i+(1:Int)))=Value.int IntKind.i64 i2],by kernel_rfl,(mcons h0 (mcons h2 (mcons (by decide) (mcons h3 (mcons rfl (mcons (congrArg (fun x=>(Th.ext (Dk.flat (FL.rw 109 [true,false,false,false] x)):Td)) h4) (mcons (congrArg (Value.int .i64) h1) mnil)))))))⟩
set_option maxRecDepth 100000 in
theorem few_x (R X Y:List Rw) (n:Int) (i i2:Int) (k:Nat) (f:Nat→Value) (h0:(decide (i<(R.length:Int))&&decide (i<n))=false) (h1:X=Y):∃ qs,alX Id' 1 0 [(5,.c (.one (.obj 1)))] [⟨.us (.ext (.vw [true,false,false,false] R)),false⟩,⟨.us (.ext (.flat (.rw 109 [true,false,false,false] Y))),true⟩] ((symC (⟨Try.prog,[F_rshort (ξ:=Dk)],[],dkHo,Id'.one,60⟩:Sy Td) [] 32 (hdC (loopsC (bodyOf Try.f57)) 0) ⟨[(6,.c (.one (.v (.int .i64 i)))),(5,.c (.one (.obj 1)))]++anyB' (writesC (hdC (loopsC (bodyOf Try.f57)) 0)) ([(0,.c (.one (.obj 0))),(1,.c (.one (.v (.int .i64 n))))]++tabV f 32),[⟨.us (.ext (.vw [true,false,false,false] R)),false⟩,⟨.us (.ext (.flat (.rw 109 [true,false,false,false] X))),true⟩],0⟩).al [false])=some qs∧∀ q∈qs,q:=
 ⟨[(decide (i<(↑R.length:Int))&&decide (i<n))=false,Th.ext (Dk.vw [true,false,false,false] R)=Th.ext (Dk.vw [true,false,false,false] R),Th.ext (Dk.flat (FL.rw 109 [true,false,false,false] X))=Th.ext (Dk.flat (FL.rw 109 [true,false,false,false] Y))],by kernel_rfl,(by refine mcons ?_ (mcons ?_ (mcons ?_ mnil))<;>first|rfl|exact h0|exact h1|trivial|(exact congrArg (fun x=>(Th.ext (Dk.flat (FL.rw 109 [true,false,false,false] x)):Td)) h1))⟩
def shR (r:Rw):Rw:=⟨[r.is.getD 0 0,r.is.getD 1 0,r.is.getD 2 0],[shortT (r.ss.getD 0 ⟨#[]⟩) 20]⟩
def fewK (R:List Rw):Nat→List Rw
 |0=>[]
 |k+1=>fewK R k++[shR (R.getD k Rw.zero)]
theorem fewK_len (R:List Rw):∀ k,(fewK R k).length=k
 |0=>rfl
 |k+1=>by simp [fewK,fewK_len R k]
def fewR (R:List Rw) (n:Int):List Rw:=fewK R (min R.length n.toNat)
set_option maxRecDepth 100000 in
theorem few_lp (R:List Rw) (n:Int) (hn:0≤n∧n≤1000) {W0:World} {G:Nat→Prop} (S0:Sy Td) (hS0:S0.P=Try.prog):LoopSound S0 Id' W0 G 32 (hdC (loopsC (bodyOf Try.f57)) 0) (lpG Id' 32 (hdC (loopsC (bodyOf Try.f57)) 0) 1 [(6,.c (.one (.v (.int .i64 ((0:Nat):Int))))),(5,.c (.one (.obj 1)))] [(0,.c (.one (.obj 0))),(1,.c (.one (.v (.int .i64 n))))] [⟨.us (.ext (.vw [true,false,false,false] R)),false⟩,⟨.us (.ext (.flat (.rw 109 [true,false,false,false] (fewK R 0)))),true⟩] (.leaf (.exit 0) [(5,.c (.one (.obj 1)))] [⟨.us (.ext (.vw [true,false,false,false] R)),false⟩,⟨.us (.ext (.flat (.rw 109 [true,false,false,false] (fewR R n)))),true⟩])):=by
 refine lp_sound (V:=fun k=>[(6,.c (.one (.v (.int .i64 (k:Int))))),(5,.c (.one (.obj 1)))]) (M:=(fun k=>[⟨.us (.ext (.vw [true,false,false,false] R)),false⟩,⟨.us (.ext (.flat (.rw 109 [true,false,false,false] (fewK R k)))),true⟩]:Nat→Mem Td)) (N:=min R.length n.toNat) (Ux:=fun k x=>match x with|.exit 0=>some ([(5,.c (.one (.obj 1)))],([⟨.us (.ext (.vw [true,false,false,false] R)),false⟩,⟨.us (.ext (.flat (.rw 109 [true,false,false,false] (fewR R n)))),true⟩]:Mem Td))|_=>none) (X:=fun _ _=>True) (J:=fun k=>k≤min R.length n.toNat) (fun k=>by kernel_rfl) (Nat.zero_le _) (fun k hk hJ f=>?_) (fun K hK k x U hk hU hX=>?_)
 ·rw [hS0]
  have hl:=fewK_len R k
  cases hT:(decide ((k:Int)<(R.length:Int))&&decide ((k:Int)<n)) with
  |false=>
   have hke:k=min R.length n.toNat:=by
    rw [Bool.and_eq_false_iff] at hT
    rcases hT with h|h<;> · have:=of_decide_eq_false h;omega
   exact rnd_xD (⟨Try.prog,[F_rshort (ξ:=Dk)],[],dkHo,Id'.one,60⟩:Sy Td) rfl ((fun (W0:World) (G:Nat→Prop)=>SyOk.mk2 Try.mixed dkHo_ok (FnsR.cons (F_rshort_ok (J:=dkI) (hx:=hardDk)) (FnsR.nil)) EqsOk.nil) W0 G) (few_x R (fewK R k) (fewR R n) n (k:Int) 0 k f hT (by rw [hke];rfl)) rfl trivial
  |true=>
   rw [Bool.and_eq_true] at hT
   have h1:=of_decide_eq_true hT.1
   have h2:=of_decide_eq_true hT.2
   have hW:IntKind.i64.wrap ((k:Int)+1)=((k+1:Nat):Int):=by rw [IntWalk.i64_in _ (by omega)];omega
   exact rnd_nD (⟨Try.prog,[F_rshort (ξ:=Dk)],[],dkHo,Id'.one,60⟩:Sy Td) rfl ((fun (W0:World) (G:Nat→Prop)=>SyOk.mk2 Try.mixed dkHo_ok (FnsR.cons (F_rshort_ok (J:=dkI) (hx:=hardDk)) (FnsR.nil)) EqsOk.nil) W0 G) (few_n R (fewK R k) (fewK R (k+1)) n (k:Int) ((k+1:Nat):Int) k f (by rw [hT.1,hT.2];rfl) hW (by omega) (by omega) (by rw [Int.toNat_natCast];rfl)) rfl rfl (by omega) (by omega)
 ·revert hU
  match x with
  |.exit 0=>intro hU;simp only [Option.some.injEq] at hU;subst hU;exact hK
  |.normal=>intro hU;cases hU
  |.ret=>intro hU;cases hU
  |.exit (n+1)=>intro hU;cases hU
end Go.Proofs.Ytdenmoiaiemokaa
set_option linter.unusedVariables false
set_option linter.unusedSimpArgs false
namespace Go.Proofs.Ytdenmoiaiemokaa
open Go.RowKit
set_option maxRecDepth 100000 in
theorem few_w0 (R:List Rw) (n:Int) :∃ qs,wayO Id' ([⟨.us (.ext (.vw [true,false,false,false] R)),false⟩]:Mem Td).length [⟨.us (.ext (.vw [true,false,false,false] R)),false⟩,⟨.us (.ext (.flat (.rw 109 [true,false,false,false] (fewR R n)))),true⟩] (.c (.one (.obj 1))) ((runFn (⟨Try.prog,[F_rshort (ξ:=Dk)],[],dkHo,Id'.one,60⟩:Sy Td) [(3,(lpG Id' 32 (hdC (loopsC (bodyOf Try.f57)) 0) 1 [(6,.c (.one (.v (.int .i64 ((0:Nat):Int))))),(5,.c (.one (.obj 1)))] [(0,.c (.one (.obj 0))),(1,.c (.one (.v (.int .i64 n))))] [⟨.us (.ext (.vw [true,false,false,false] R)),false⟩,⟨.us (.ext (.flat (.rw 109 [true,false,false,false] (fewK R 0)))),true⟩] (.leaf (.exit 0) [(5,.c (.one (.obj 1)))] [⟨.us (.ext (.vw [true,false,false,false] R)),false⟩,⟨.us (.ext (.flat (.rw 109 [true,false,false,false] (fewR R n)))),true⟩])))] Try.f57 [.one (.obj 0),.one (.v (.int .i64 n))] [⟨.us (.ext (.vw [true,false,false,false] R)),false⟩]).al [])=some qs∧∀ q∈qs,q:=
 ⟨[Value.int IntKind.i64 n=Value.int IntKind.i64 n,Th.ext (Dk.vw [true,false,false,false] R)=Th.ext (Dk.vw [true,false,false,false] R),∀ (w:World),Id'.holds (Th.ext (Dk.flat (FL.rw (109:TypeId) [true,false,false,false] (fewK R (0:Nat))))) w nilV∧∀ (j:Nat),¬Id'.foot (Th.ext (Dk.flat (FL.rw (109:TypeId) [true,false,false,false] (fewK R (0:Nat))))) w nilV j,Value.int IntKind.i64 (Int.ofNat 0)=Value.int IntKind.i64 (Int.ofNat (0:Nat)),Th.ext (Dk.vw [true,false,false,false] R)=Th.ext (Dk.vw [true,false,false,false] R),Th.ext (Dk.flat (FL.rw 109 [true,false,false,false] (Nat.brecOn.go (min R.length n.toNat) (fewK._f R)).1))=Th.ext (Dk.flat (FL.rw 109 [true,false,false,false] (Nat.brecOn.go (min R.length n.toNat) (fewK._f R)).1))],by kernel_rfl,(by refine mcons ?_ (mcons ?_ (mcons ?_ (mcons ?_ (mcons ?_ (mcons ?_ mnil)))))<;>first|rfl|trivial|(exact nil_rows rfl))⟩
def C_few:Ctr Td:=fun us sub=>match us,sub with
 |[.one (.obj 0),.one (.v (.int .i64 n))],[⟨.us (.ext (.vw [true,false,false,false] R)),false⟩]=>some ([0≤n∧n≤1000],.c (.one (.obj 1)),[⟨.us (.ext (.vw [true,false,false,false] R)),false⟩,⟨.us (.ext (.flat (.rw 109 [true,false,false,false] (fewR R n)))),true⟩])
 |_,_=>none
set_option maxRecDepth 100000 in
theorem C_few_ok:CtrOk Try.prog Id' 57 C_few:=by
 intro us sub ps x sm h hp w e vs hM ha
 unfold C_few at h
 split at h
 ·rename_i n R
  simp only [Option.some.injEq,Prod.mk.injEq] at h
  obtain ⟨rfl,rfl,rfl⟩:=h
  have hn:0≤n∧n≤1000:=hp _ (List.mem_cons_self ..)
  exact ctr_way (I:=Id') (fun (W0:World) (G:Nat→Prop)=>SyOk.mk2 Try.mixed dkHo_ok (FnsR.cons (F_rshort_ok (J:=dkI) (hx:=hardDk)) (FnsR.nil)) EqsOk.nil) rfl Try.func57 (by kernel_rfl) (fun _ _=>LpsOk.cons (by kernel_rfl) (few_lp R n hn _ rfl) (LpsOk.nil _)) (cs:=[]) (by kernel_rfl) (few_w0 R n ) w e vs hM ha
 ·cases h
end Go.Proofs.Ytdenmoiaiemokaa
set_option linter.unusedVariables false
set_option linter.unusedSimpArgs false
namespace Go.Proofs.Ytdenmoiaiemokaa
open Go.RowKit
def gU (s:RS):UInt8:=UInt8.ofNat (IntKind.u8.wrap (s.num 8:Int)).toNat
def gL:Nat→RS→List UInt8
 |0,_=>[]
 |n+1,s=>gU s::gL n (s.get 8)
def gS:Nat→RS→RS
 |0,s=>s
 |n+1,s=>gS n (s.get 8)
def gN (s:RS):Int:=if (16:Int)<IntKind.i64.wrap (s.num 5:Int) then 16 else IntKind.i64.wrap (s.num 5:Int)
def g4 (s:RS):RS:=(((s.get 5).get 6).get 31).get 2
def gNm (s:RS):ByteArray:=⟨((gL 16 (g4 s)).take (gN s).toNat).toArray⟩
def gA (s:RS):Int:=IntKind.i64.wrap ((s.get 5).num 6:Int)
def gB (s:RS):Int:=IntKind.i64.wrap (((s.get 5).get 6).num 31:Int)
def gC (s:RS):Int:=IntKind.i64.wrap ((((s.get 5).get 6).get 31).num 2:Int)
def gE (s:RS):RS:=gS 16 (g4 s)
def gVs:Nat→RS→List Value
 |0,_=>[]
 |n+1,s=>.int .u8 (IntKind.u8.wrap (s.num 8:Int))::gVs n (s.get 8)
theorem u8w_in (x:Int):0≤IntKind.u8.wrap x∧IntKind.u8.wrap x<256:=by
 show 0≤x % 256∧x % 256<256
 omega
theorem u8w_bv (x:Int):(.int .u8 (IntKind.u8.wrap x):Value)=bv (UInt8.ofNat (IntKind.u8.wrap x).toNat):=by
 have h:=u8w_in x
 unfold bv
 congr 1
 rw [UInt8.toNat_ofNat']
 omega
theorem gVs_bv:∀ (n:Nat) (s:RS),gVs n s=(unb (gVs n s)).map bv
 |0,_=>rfl
 |n+1,s=>by
  show _::_=_::_
  congr 1
  ·exact u8w_bv _
  ·exact gVs_bv n (s.get 8)
theorem gN_le (s:RS):(gN s).toNat≤16:=by unfold gN;split<;>omega
theorem RS.num_lt (s:RS) (n:Nat):s.num (n:Int)<2 ^ n:=by
 unfold RS.num getV
 split
 ·have h:=val_lt (bitsFrom s.l s.at' (n:Int).toNat)
  refine Nat.lt_of_lt_of_le h (Nat.pow_le_pow_right (by decide) ?_)
  unfold bitsFrom
  rw [Int.toNat_natCast]
  exact List.length_take_le ..
 ·exact Nat.pow_pos (by decide)
theorem gN_in (s:RS):0≤gN s∧gN s≤16:=by
 have h:=RS.num_lt s 5
 have:IntKind.i64.wrap (s.num 5:Int)=(s.num 5:Int):=IntWalk.i64_in _ (by
  have:(s.num ((5:Nat):Int))<32:=h
  have e:(s.num ((5:Nat):Int))=s.num 5:=rfl
  omega)
 unfold gN
 rw [this]
 split<;>omega
set_option maxRecDepth 100000 in
theorem dget_w0 (s:RS):∃ qs,wayO Id' ([⟨.us (.rd s),true⟩]:Mem Td).length [⟨.us (.rd (gE s)),true⟩] (.c (.agg [.v (.string (gNm s)),.v (.int .i64 (gA s)),.v (.int .i64 (gB s)),.v (.int .i64 (gC s))])) ((runFn (⟨Try.prog,[F_get (ξ:=Dk) (hx:=hardDk)],[],dkHo,Id'.one,60⟩:Sy Td) [] Try.f125 [.one (.obj 0)] [⟨.us (.rd s),true⟩]).al [])=some qs∧∀ q∈qs,q:=
 ⟨[(gN s).toNat≤(gVs 16 (g4 s)).length∧(gN s).toNat≤16∧16≤maxLen,gVs 16 (g4 s)=(unb (gVs 16 (g4 s))).map bv,0≤gN s∧gN s≤16,(Th.rd (gE s):Td)=Th.rd (gE s),Value.string (gNm s)=Value.string (gNm s),Value.int .i64 (gA s)=Value.int .i64 (gA s),Value.int .i64 (gB s)=Value.int .i64 (gB s),Value.int .i64 (gC s)=Value.int .i64 (gC s)],by kernel_rfl,(mcons (⟨by show _≤16;exact gN_le s,gN_le s,by decide⟩) (mcons (gVs_bv 16 _) (mcons (gN_in s) (mcons (rfl) (mcons (rfl) (mcons (rfl) (mcons (rfl) (mcons (rfl) mnil))))))))⟩
def C_dget:Ctr Td:=fun us sub=>match us,sub with
 |[.one (.obj 0)],[⟨.us (.rd s),true⟩]=>some ([],.c (.agg [.v (.string (gNm s)),.v (.int .i64 (gA s)),.v (.int .i64 (gB s)),.v (.int .i64 (gC s))]),[⟨.us (.rd (gE s)),true⟩])
 |_,_=>none
set_option maxRecDepth 100000 in
theorem C_dget_ok:CtrOk Try.prog Id' 125 C_dget:=by
 intro us sub ps x sm h hp w e vs hM ha
 unfold C_dget at h
 split at h
 ·rename_i s
  simp only [Option.some.injEq,Prod.mk.injEq] at h
  obtain ⟨rfl,rfl,rfl⟩:=h
  exact ctr_way (I:=Id') (fun (W0:World) (G:Nat→Prop)=>SyOk.mk2 Try.mixed dkHo_ok (FnsR.cons (F_get_ok (J:=dkI) (hx:=hardDk)) (FnsR.nil)) EqsOk.nil) rfl Try.func125 (by kernel_rfl) (fun _ _=>LpsOk.nil _) (cs:=[]) (by kernel_rfl) (dget_w0 s ) w e vs hM ha
 ·cases h
theorem R_dget:RowOk Try.prog Id' hardD 125 (ctrF Id' C_dget hardD):=ctrF_ok Try.call125 C_dget_ok
end Go.Proofs.Ytdenmoiaiemokaa
set_option linter.unusedVariables false
set_option linter.unusedSimpArgs false
namespace Go.Proofs.Ytdenmoiaiemokaa
open Go.RowKit
def eqT (L M:List (List UInt8)) (i:Int):Bool:=decide (L.getD i.toNat []=M.getD i.toNat [])
set_option maxRecDepth 100000 in
theorem eqf_n (L M:List (List UInt8)) (i i2:Int) (k:Nat) (f:Nat→Value) (h0:decide (i<(L.length:Int))=true) (h1:IntKind.i64.wrap (i+1)=i2) (h2:0≤i∧i.toNat<L.length) (h3:eqT L M (i)=true) (h4:L.length=M.length):∃ qs,alN Id' 2 [(17,.c (.one (.v (.int .i64 i2))))] [⟨.us (.ext (.shr 1 L.length (tbE L))),false⟩,⟨.us (.ext (.shr 1 M.length (tbE M))),false⟩] ((symC (⟨Try.prog,[F_equal (ξ:=Dk)],[],dkHo,Id'.one,60⟩:Sy Td) [] 32 (hdC (loopsC (bodyOf Try.f126)) 0) ⟨[(17,.c (.one (.v (.int .i64 i))))]++anyB' (writesC (hdC (loopsC (bodyOf Try.f126)) 0)) ([(0,.c (.one (.obj 0))),(1,.c (.one (.obj 1))),(2,.c (.fn 127 [])),(15,.c (.one (.obj 0))),(16,.c (.one (.v (.int .i64 (L.length:Int)))))]++tabV f 32),[⟨.us (.ext (.shr 1 L.length (tbE L))),false⟩,⟨.us (.ext (.shr 1 M.length (tbE M))),false⟩],0⟩).al [true,false])=some qs∧∀ q∈qs,q:=
 ⟨[decide (i<(↑L.length:Int))=true,(0:Int)≤i∧i.toNat<L.length,(0:Int)≤i∧i.toNat<M.length,(!decide (L.getD i.toNat []=M.getD i.toNat []))=false,Th.ext (Dk.shr 1 L.length (tbE L))=Th.ext (Dk.shr 1 L.length (tbE L)),Th.ext (Dk.shr 1 M.length (tbE M))=Th.ext (Dk.shr 1 M.length (tbE M)),Value.int IntKind.i64 (IntKind.i64.wrap (i+(1:Int)))=Value.int IntKind.i64 i2],by kernel_rfl,(by refine mcons ?_ (mcons ?_ (mcons ?_ (mcons ?_ (mcons ?_ (mcons ?_ (mcons ?_ mnil))))))<;>first|rfl|exact h0|exact h1|exact h2|exact h3|exact h4|trivial|(exact congrArg _ h1)|(exact h2)|(exact ⟨h2.1,by omega⟩)|(exact congrArg (! ·) h3))⟩
set_option maxRecDepth 100000 in
theorem eqf_x (L M:List (List UInt8)) (i i2:Int) (k:Nat) (f:Nat→Value) (h0:decide (i<(L.length:Int))=false):∃ qs,alX Id' 2 0 [] [⟨.us (.ext (.shr 1 L.length (tbE L))),false⟩,⟨.us (.ext (.shr 1 M.length (tbE M))),false⟩] ((symC (⟨Try.prog,[F_equal (ξ:=Dk)],[],dkHo,Id'.one,60⟩:Sy Td) [] 32 (hdC (loopsC (bodyOf Try.f126)) 0) ⟨[(17,.c (.one (.v (.int .i64 i))))]++anyB' (writesC (hdC (loopsC (bodyOf Try.f126)) 0)) ([(0,.c (.one (.obj 0))),(1,.c (.one (.obj 1))),(2,.c (.fn 127 [])),(15,.c (.one (.obj 0))),(16,.c (.one (.v (.int .i64 (L.length:Int)))))]++tabV f 32),[⟨.us (.ext (.shr 1 L.length (tbE L))),false⟩,⟨.us (.ext (.shr 1 M.length (tbE M))),false⟩],0⟩).al [false])=some qs∧∀ q∈qs,q:=
 ⟨[decide (i<(↑L.length:Int))=false,Th.ext (Dk.shr 1 L.length (tbE L))=Th.ext (Dk.shr 1 L.length (tbE L)),Th.ext (Dk.shr 1 M.length (tbE M))=Th.ext (Dk.shr 1 M.length (tbE M))],by kernel_rfl,(by refine mcons ?_ (mcons ?_ (mcons ?_ mnil))<;>first|rfl|exact h0|trivial|(exact congrArg _ h1)|(exact h2)|(exact ⟨h2.1,by omega⟩)|(exact congrArg (! ·) h3))⟩
set_option maxRecDepth 100000 in
theorem eqf_r (L M:List (List UInt8)) (i i2:Int) (k:Nat) (f:Nat→Value) (h0:decide (i<(L.length:Int))=true) (h1:IntKind.i64.wrap (i+1)=i2) (h2:0≤i∧i.toNat<L.length) (h3:eqT L M (i)=false) (h4:L.length=M.length):∃ qs,alR Id' 2 [(6,.c (.one (.kB false)))] [⟨.us (.ext (.shr 1 L.length (tbE L))),false⟩,⟨.us (.ext (.shr 1 M.length (tbE M))),false⟩] ((symC (⟨Try.prog,[F_equal (ξ:=Dk)],[],dkHo,Id'.one,60⟩:Sy Td) [] 32 (hdC (loopsC (bodyOf Try.f126)) 0) ⟨[(17,.c (.one (.v (.int .i64 i))))]++anyB' (writesC (hdC (loopsC (bodyOf Try.f126)) 0)) ([(0,.c (.one (.obj 0))),(1,.c (.one (.obj 1))),(2,.c (.fn 127 [])),(15,.c (.one (.obj 0))),(16,.c (.one (.v (.int .i64 (L.length:Int)))))]++tabV f 32),[⟨.us (.ext (.shr 1 L.length (tbE L))),false⟩,⟨.us (.ext (.shr 1 M.length (tbE M))),false⟩],0⟩).al [true,true])=some qs∧∀ q∈qs,q:=
 ⟨[decide (i<(↑L.length:Int))=true,(0:Int)≤i∧i.toNat<L.length,(0:Int)≤i∧i.toNat<M.length,(!decide (L.getD i.toNat []=M.getD i.toNat []))=true,Th.ext (Dk.shr 1 L.length (tbE L))=Th.ext (Dk.shr 1 L.length (tbE L)),Th.ext (Dk.shr 1 M.length (tbE M))=Th.ext (Dk.shr 1 M.length (tbE M)),Value.bool false=Value.bool false],by kernel_rfl,(by refine mcons ?_ (mcons ?_ (mcons ?_ (mcons ?_ (mcons ?_ (mcons ?_ (mcons ?_ mnil))))))<;>first|rfl|exact h0|exact h1|exact h2|exact h3|exact h4|trivial|(exact congrArg _ h1)|(exact h2)|(exact ⟨h2.1,by omega⟩)|(exact congrArg (! ·) h3))⟩
set_option maxRecDepth 100000 in
theorem eqf_lpA (L M:List (List UInt8)) (hL:L.length≤100000) (x0:L.length=M.length) (hall:∀ i:Int,0≤i→i.toNat<L.length→eqT L M (i)=true) {W0:World} {G:Nat→Prop} (S0:Sy Td) (hS0:S0.P=Try.prog):LoopSound S0 Id' W0 G 32 (hdC (loopsC (bodyOf Try.f126)) 0) (lpG Id' 32 (hdC (loopsC (bodyOf Try.f126)) 0) 2 [(17,.c (.one (.v (.int .i64 ((0+0:Nat):Int)))))] [(0,.c (.one (.obj 0))),(1,.c (.one (.obj 1))),(2,.c (.fn 127 [])),(15,.c (.one (.obj 0))),(16,.c (.one (.v (.int .i64 (L.length:Int)))))] [⟨.us (.ext (.shr 1 L.length (tbE L))),false⟩,⟨.us (.ext (.shr 1 M.length (tbE M))),false⟩] (.leaf (.exit 0) [] [⟨.us (.ext (.shr 1 L.length (tbE L))),false⟩,⟨.us (.ext (.shr 1 M.length (tbE M))),false⟩])):=by
 refine lp_sound (V:=fun k=>[(17,.c (.one (.v (.int .i64 ((k+0:Nat):Int)))))]) (M:=(fun k=>[⟨.us (.ext (.shr 1 L.length (tbE L))),false⟩,⟨.us (.ext (.shr 1 M.length (tbE M))),false⟩]:Nat→Mem Td)) (N:=L.length) (Ux:=fun k x=>match x with|.exit 0=>some ([],([⟨.us (.ext (.shr 1 L.length (tbE L))),false⟩,⟨.us (.ext (.shr 1 M.length (tbE M))),false⟩]:Mem Td))|_=>none) (X:=fun _ _=>True) (J:=fun k=>True) (fun k=>by kernel_rfl) trivial (fun k hk hJ f=>?_) (fun K hK k x U hk hU hX=>?_)
 ·rw [hS0]
  cases hT:decide (((k+0:Nat):Int)<(L.length:Int)) with
  |false=>
   exact rnd_xD (⟨Try.prog,[F_equal (ξ:=Dk)],[],dkHo,Id'.one,60⟩:Sy Td) rfl ((fun (W0:World) (G:Nat→Prop)=>SyOk.mk2 Try.mixed dkHo_ok (FnsR.cons (F_equal_ok (J:=dkI) (hx:=hardDk)) (FnsR.nil)) EqsOk.nil) W0 G) (eqf_x L M ((k+0:Nat):Int) ((k+1+0:Nat):Int) k f hT) rfl trivial
  |true=>
   have hk1:=of_decide_eq_true hT
   have hW:IntKind.i64.wrap (((k+0:Nat):Int)+1)=((k+1+0:Nat):Int):=by rw [IntWalk.i64_in _ (by omega)];omega
   exact rnd_nD (⟨Try.prog,[F_equal (ξ:=Dk)],[],dkHo,Id'.one,60⟩:Sy Td) rfl ((fun (W0:World) (G:Nat→Prop)=>SyOk.mk2 Try.mixed dkHo_ok (FnsR.cons (F_equal_ok (J:=dkI) (hx:=hardDk)) (FnsR.nil)) EqsOk.nil) W0 G) (eqf_n L M ((k+0:Nat):Int) ((k+1+0:Nat):Int) k f hT hW (by omega) (hall _ (by omega) (by omega)) x0) rfl rfl (by omega) trivial
 ·revert hU
  match x with
  |.exit 0=>intro hU;simp only [Option.some.injEq] at hU;subst hU;exact hK
  |.normal=>intro hU;cases hU
  |.ret=>intro hU;cases hU
  |.exit (n+1)=>intro hU;cases hU
set_option maxRecDepth 100000 in
theorem eqf_lpR (L M:List (List UInt8)) (hL:L.length≤100000) (x0:L.length=M.length) (hex:∃ i:Int,0≤i∧i.toNat<L.length∧eqT L M (i)=false) {W0:World} {G:Nat→Prop} (S0:Sy Td) (hS0:S0.P=Try.prog):LoopSound S0 Id' W0 G 32 (hdC (loopsC (bodyOf Try.f126)) 0) (lpG Id' 32 (hdC (loopsC (bodyOf Try.f126)) 0) 2 [(17,.c (.one (.v (.int .i64 ((0+0:Nat):Int)))))] [(0,.c (.one (.obj 0))),(1,.c (.one (.obj 1))),(2,.c (.fn 127 [])),(15,.c (.one (.obj 0))),(16,.c (.one (.v (.int .i64 (L.length:Int)))))] [⟨.us (.ext (.shr 1 L.length (tbE L))),false⟩,⟨.us (.ext (.shr 1 M.length (tbE M))),false⟩] (.leaf .ret [(6,.c (.one (.kB false)))] [⟨.us (.ext (.shr 1 L.length (tbE L))),false⟩,⟨.us (.ext (.shr 1 M.length (tbE M))),false⟩])):=by
 refine lp_sound (V:=fun k=>[(17,.c (.one (.v (.int .i64 ((k+0:Nat):Int)))))]) (M:=(fun k=>[⟨.us (.ext (.shr 1 L.length (tbE L))),false⟩,⟨.us (.ext (.shr 1 M.length (tbE M))),false⟩]:Nat→Mem Td)) (N:=L.length) (Ux:=fun k x=>match x with|.ret=>some ([(6,.c (.one (.kB false)))],([⟨.us (.ext (.shr 1 L.length (tbE L))),false⟩,⟨.us (.ext (.shr 1 M.length (tbE M))),false⟩]:Mem Td))|_=>none) (X:=fun _ _=>True) (J:=fun k=>∀ i:Int,0≤i→i<((k+0:Nat):Int)→eqT L M (i)=true) (fun k=>by kernel_rfl) (fun i h0 h1=>by omega) (fun k hk hJ f=>?_) (fun K hK k x U hk hU hX=>?_)
 ·rw [hS0]
  cases hT:decide (((k+0:Nat):Int)<(L.length:Int)) with
  |false=>
   obtain ⟨j,j0,j1,j2⟩:=hex
   have:=of_decide_eq_false hT
   rw [hJ j j0 (by omega)] at j2
   cases j2
  |true=>
   have hk1:=of_decide_eq_true hT
   have hW:IntKind.i64.wrap (((k+0:Nat):Int)+1)=((k+1+0:Nat):Int):=by rw [IntWalk.i64_in _ (by omega)];omega
   cases hq:eqT L M (((k+0:Nat):Int)) with
   |true=>exact rnd_nD (⟨Try.prog,[F_equal (ξ:=Dk)],[],dkHo,Id'.one,60⟩:Sy Td) rfl ((fun (W0:World) (G:Nat→Prop)=>SyOk.mk2 Try.mixed dkHo_ok (FnsR.cons (F_equal_ok (J:=dkI) (hx:=hardDk)) (FnsR.nil)) EqsOk.nil) W0 G) (eqf_n L M ((k+0:Nat):Int) ((k+1+0:Nat):Int) k f hT hW (by omega) hq x0) rfl rfl (by omega) (fun i h0 h1=>by
     by_cases he:i=((k+0:Nat):Int)
     ·subst he;exact hq
     ·exact hJ i h0 (by omega))
   |false=>exact rnd_rD (⟨Try.prog,[F_equal (ξ:=Dk)],[],dkHo,Id'.one,60⟩:Sy Td) rfl ((fun (W0:World) (G:Nat→Prop)=>SyOk.mk2 Try.mixed dkHo_ok (FnsR.cons (F_equal_ok (J:=dkI) (hx:=hardDk)) (FnsR.nil)) EqsOk.nil) W0 G) (eqf_r L M ((k+0:Nat):Int) ((k+1+0:Nat):Int) k f hT hW (by omega) hq x0) rfl trivial
 ·revert hU
  match x with
  |.ret=>intro hU;simp only [Option.some.injEq] at hU;subst hU;exact hK
  |.normal=>intro hU;cases hU
  |.exit n=>intro hU;cases hU
set_option maxRecDepth 100000 in
theorem eqfD_w0 (L M:List (List UInt8)) (h0:(!decide ((L.length:Int)=(M.length:Int)))=true):∃ qs,wayO Id' ([⟨.us (.ext (.shr 1 L.length (tbE L))),false⟩,⟨.us (.ext (.shr 1 M.length (tbE M))),false⟩]:Mem Td).length [⟨.us (.ext (.shr 1 L.length (tbE L))),false⟩,⟨.us (.ext (.shr 1 M.length (tbE M))),false⟩] (svV (.bool false)) ((runFn (⟨Try.prog,[F_equal (ξ:=Dk)],[],dkHo,Id'.one,60⟩:Sy Td) [] Try.f126 [.one (.obj 0),.one (.obj 1),.fn 127 []] [⟨.us (.ext (.shr 1 L.length (tbE L))),false⟩,⟨.us (.ext (.shr 1 M.length (tbE M))),false⟩]).al [true])=some qs∧∀ q∈qs,q:=
 ⟨[((↑L.length:Int) != (↑M.length:Int))=true,Th.ext (Dk.shr 1 L.length (tbE L))=Th.ext (Dk.shr 1 L.length (tbE L)),Th.ext (Dk.shr 1 M.length (tbE M))=Th.ext (Dk.shr 1 M.length (tbE M)),Value.bool false=Value.bool false],by kernel_rfl,(by refine mcons ?_ (mcons ?_ (mcons ?_ (mcons ?_ mnil)))<;>first|rfl|exact h0|trivial)⟩
set_option maxRecDepth 100000 in
theorem eqfA_w0 (L M:List (List UInt8)) (h0:(!decide ((L.length:Int)=(M.length:Int)))=false):∃ qs,wayO Id' ([⟨.us (.ext (.shr 1 L.length (tbE L))),false⟩,⟨.us (.ext (.shr 1 M.length (tbE M))),false⟩]:Mem Td).length [⟨.us (.ext (.shr 1 L.length (tbE L))),false⟩,⟨.us (.ext (.shr 1 M.length (tbE M))),false⟩] (svV (.bool true)) ((runFn (⟨Try.prog,[F_equal (ξ:=Dk)],[],dkHo,Id'.one,60⟩:Sy Td) [(4,(lpG Id' 32 (hdC (loopsC (bodyOf Try.f126)) 0) 2 [(17,.c (.one (.v (.int .i64 ((0+0:Nat):Int)))))] [(0,.c (.one (.obj 0))),(1,.c (.one (.obj 1))),(2,.c (.fn 127 [])),(15,.c (.one (.obj 0))),(16,.c (.one (.v (.int .i64 (L.length:Int)))))] [⟨.us (.ext (.shr 1 L.length (tbE L))),false⟩,⟨.us (.ext (.shr 1 M.length (tbE M))),false⟩] (.leaf (.exit 0) [] [⟨.us (.ext (.shr 1 L.length (tbE L))),false⟩,⟨.us (.ext (.shr 1 M.length (tbE M))),false⟩])))] Try.f126 [.one (.obj 0),.one (.obj 1),.fn 127 []] [⟨.us (.ext (.shr 1 L.length (tbE L))),false⟩,⟨.us (.ext (.shr 1 M.length (tbE M))),false⟩]).al [false])=some qs∧∀ q∈qs,q:=
 ⟨[((↑L.length:Int) != (↑M.length:Int))=false,Value.int IntKind.i64 (↑L.length:Int)=Value.int IntKind.i64 (↑L.length:Int),Th.ext (Dk.shr 1 L.length (tbE L))=Th.ext (Dk.shr 1 L.length (tbE L)),Th.ext (Dk.shr 1 M.length (tbE M))=Th.ext (Dk.shr 1 M.length (tbE M)),Value.int IntKind.i64 (Int.ofNat 0)=Value.int IntKind.i64 (Int.ofNat ((0:Nat)+(0:Nat))),Th.ext (Dk.shr 1 L.length (tbE L))=Th.ext (Dk.shr 1 L.length (tbE L)),Th.ext (Dk.shr 1 M.length (tbE M))=Th.ext (Dk.shr 1 M.length (tbE M)),Value.bool true=Value.bool true],by kernel_rfl,(by refine mcons ?_ (mcons ?_ (mcons ?_ (mcons ?_ (mcons ?_ (mcons ?_ (mcons ?_ (mcons ?_ mnil)))))))<;>first|rfl|exact h0|trivial)⟩
set_option maxRecDepth 100000 in
theorem eqfR_w0 (L M:List (List UInt8)) (h0:(!decide ((L.length:Int)=(M.length:Int)))=false):∃ qs,wayO Id' ([⟨.us (.ext (.shr 1 L.length (tbE L))),false⟩,⟨.us (.ext (.shr 1 M.length (tbE M))),false⟩]:Mem Td).length [⟨.us (.ext (.shr 1 L.length (tbE L))),false⟩,⟨.us (.ext (.shr 1 M.length (tbE M))),false⟩] (svV (.bool false)) ((runFn (⟨Try.prog,[F_equal (ξ:=Dk)],[],dkHo,Id'.one,60⟩:Sy Td) [(4,(lpG Id' 32 (hdC (loopsC (bodyOf Try.f126)) 0) 2 [(17,.c (.one (.v (.int .i64 ((0+0:Nat):Int)))))] [(0,.c (.one (.obj 0))),(1,.c (.one (.obj 1))),(2,.c (.fn 127 [])),(15,.c (.one (.obj 0))),(16,.c (.one (.v (.int .i64 (L.length:Int)))))] [⟨.us (.ext (.shr 1 L.length (tbE L))),false⟩,⟨.us (.ext (.shr 1 M.length (tbE M))),false⟩] (.leaf .ret [(6,.c (.one (.kB false)))] [⟨.us (.ext (.shr 1 L.length (tbE L))),false⟩,⟨.us (.ext (.shr 1 M.length (tbE M))),false⟩])))] Try.f126 [.one (.obj 0),.one (.obj 1),.fn 127 []] [⟨.us (.ext (.shr 1 L.length (tbE L))),false⟩,⟨.us (.ext (.shr 1 M.length (tbE M))),false⟩]).al [false])=some qs∧∀ q∈qs,q:=
 ⟨[((↑L.length:Int) != (↑M.length:Int))=false,Value.int IntKind.i64 (↑L.length:Int)=Value.int IntKind.i64 (↑L.length:Int),Th.ext (Dk.shr 1 L.length (tbE L))=Th.ext (Dk.shr 1 L.length (tbE L)),Th.ext (Dk.shr 1 M.length (tbE M))=Th.ext (Dk.shr 1 M.length (tbE M)),Value.int IntKind.i64 (Int.ofNat 0)=Value.int IntKind.i64 (Int.ofNat ((0:Nat)+(0:Nat))),Th.ext (Dk.shr 1 L.length (tbE L))=Th.ext (Dk.shr 1 L.length (tbE L)),Th.ext (Dk.shr 1 M.length (tbE M))=Th.ext (Dk.shr 1 M.length (tbE M)),Value.bool false=Value.bool false],by kernel_rfl,(by refine mcons ?_ (mcons ?_ (mcons ?_ (mcons ?_ (mcons ?_ (mcons ?_ (mcons ?_ (mcons ?_ mnil)))))))<;>first|rfl|exact h0|trivial)⟩
theorem eqT_all (L M:List (List UInt8)):(decide (L.length=M.length)&&allI 0 L.length (eqT L M))=decide (L=M):=by
 rw [Bool.eq_iff_iff,Bool.and_eq_true,decide_eq_true_iff,decide_eq_true_iff]
 constructor
 ·rintro ⟨h,ha⟩
  rcases allI_cases 0 L.length (eqT L M) with ⟨_,g⟩|⟨g,_⟩
  ·apply List.ext_getElem h
   intro i h1 h2
   have:=of_decide_eq_true (g (i:Int) (by omega) (by omega))
   rw [Int.toNat_natCast,List.getD_eq_getElem?_getD,List.getD_eq_getElem?_getD,List.getElem?_eq_getElem h1,List.getElem?_eq_getElem h2] at this
   exact this
  ·rw [ha] at g;cases g
 ·rintro rfl
  refine ⟨rfl,?_⟩
  rcases allI_cases 0 L.length (eqT L L) with ⟨g,_⟩|⟨_,i,_,_,g⟩
  ·exact g
  ·unfold eqT at g;simp at g
def C_eqf (L M:List (List UInt8)):Ctr Td:=fun us sub=>match us,sub with
 |[.one (.obj 0),.one (.obj 1),.fn 127 []],[⟨.us (.ext (.shr sz n el)),false⟩,⟨.us (.ext (.shr sz2 n2 el2)),false⟩]=>some ([sz=1∧n=L.length∧el=tbE L,sz2=1∧n2=M.length∧el2=tbE M,L.length≤100000],svV (.bool (decide (L=M))),[⟨.us (.ext (.shr sz n el)),false⟩,⟨.us (.ext (.shr sz2 n2 el2)),false⟩])
 |_,_=>none
set_option maxRecDepth 100000 in
theorem C_eqf_ok (L M:List (List UInt8)):CtrOk Try.prog Id' 126 (C_eqf L M):=by
 intro us sub ps x sm h hp w e vs hM ha
 unfold C_eqf at h
 split at h
 ·rename_i sz n el sz2 n2 el2
  simp only [Option.some.injEq,Prod.mk.injEq] at h
  obtain ⟨rfl,rfl,rfl⟩:=h
  obtain ⟨rfl,rfl,rfl⟩:=hp _ (List.mem_cons_self ..)
  obtain ⟨rfl,rfl,rfl⟩:=hp _ (List.mem_cons_of_mem _ (List.mem_cons_self ..))
  have hL:L.length≤100000:=hp _ (List.mem_cons_of_mem _ (List.mem_cons_of_mem _ (List.mem_cons_self ..)))
  rw [← eqT_all]
  cases hq:(!decide ((L.length:Int)=(M.length:Int))) with
  |true=>
   have hv:decide (L.length=M.length)=false:=decide_eq_false (fun e=>by rw [e] at hq;simp at hq)
   rw [hv,Bool.false_and]
   exact ctr_way (I:=Id') (fun (W0:World) (G:Nat→Prop)=>SyOk.mk2 Try.mixed dkHo_ok (FnsR.cons (F_equal_ok (J:=dkI) (hx:=hardDk)) (FnsR.nil)) EqsOk.nil) rfl Try.func126 (by kernel_rfl) (fun _ _=>LpsOk.nil _) (cs:=[true]) (by kernel_rfl) (eqfD_w0 L M hq) w e vs hM ha
  |false=>
   have hd:decide ((L.length:Int)=(M.length:Int))=true:=by simpa using hq
   have hl:L.length=M.length:=by have:=of_decide_eq_true hd;omega
   rw [decide_eq_true hl,Bool.true_and]
   rcases allI_cases 0 L.length (eqT L M) with ⟨ha0,hall⟩|⟨ha0,hex⟩
   ·rw [ha0]
    exact ctr_way (I:=Id') (fun (W0:World) (G:Nat→Prop)=>SyOk.mk2 Try.mixed dkHo_ok (FnsR.cons (F_equal_ok (J:=dkI) (hx:=hardDk)) (FnsR.nil)) EqsOk.nil) rfl Try.func126 (by kernel_rfl) (fun _ _=>LpsOk.cons (by kernel_rfl) (eqf_lpA L M hL hl hall _ rfl) (LpsOk.nil _)) (cs:=[false]) (by kernel_rfl) (eqfA_w0 L M hq) w e vs hM ha
   ·rw [ha0]
    exact ctr_way (I:=Id') (fun (W0:World) (G:Nat→Prop)=>SyOk.mk2 Try.mixed dkHo_ok (FnsR.cons (F_equal_ok (J:=dkI) (hx:=hardDk)) (FnsR.nil)) EqsOk.nil) rfl Try.func126 (by kernel_rfl) (fun _ _=>LpsOk.cons (by kernel_rfl) (eqf_lpR L M hL hl hex _ rfl) (LpsOk.nil _)) (cs:=[false]) (by kernel_rfl) (eqfR_w0 L M hq) w e vs hM ha
 ·cases h
theorem R_eqf (L M:List (List UInt8)):RowOk Try.prog Id' hardD 126 (ctrF Id' (wkC (C_eqf L M)) hardD):=ctrF_ok Try.call126 (wkC_ok (C_eqf_ok L M))
end Go.Proofs.Ytdenmoiaiemokaa
