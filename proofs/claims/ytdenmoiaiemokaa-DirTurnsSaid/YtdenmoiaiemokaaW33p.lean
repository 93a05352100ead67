/- W22 W23 W24 W25 W26 W27 W28 W29 W30 W31 W32 W33. -/
import Derived.Test.YtdenmoiaiemokaaW21p
set_option linter.unusedVariables false
set_option linter.unusedSimpArgs false
namespace Go.Proofs.Ytdenmoiaiemokaa
open Go.RowKit
theorem nil_tab0 {L:List (List UInt8)} (h:L=[]):∀ w,Id'.holds (Th.ext (Dk.tab (.bs L)):Td) w nilV∧∀ j,¬ Id'.foot (Th.ext (Dk.tab (.bs L)):Td) w nilV j:=by
 subst h
 refine fun w=>⟨⟨(fun r hr=>by cases hr),(fun r hr=>by cases hr),[],rfl,⟨0,Nat.zero_le _,owns_nilV w 0 _ _⟩,fun i v r h=>by simp at h⟩,fun j h=>?_⟩
 rcases h with h|⟨i,r,v,h,_⟩
 ·cases h
 ·simp [TB.R] at h
set_option maxRecDepth 100000 in
theorem dbkA_w0 (R:List Rw) (h0:(!allI 1 R.length (riseI R))=true) (h1:R.length≤100000):∃ qs,wayO Id' ([⟨.us (.ext (.vw [true,false,false,false] R)),false⟩]:Mem Td).length [⟨.us (.ext (.vw [true,false,false,false] R)),false⟩,⟨.us (.ext (.tab (.bs []))),true⟩] (.tup [.one (.obj 1),.one (.v (.int .i64 2))]) ((runFn (⟨Try.prog,[(115,ctrF Id' C_drise hardD),(116,ctrF Id' C_ctf hardD)],[],dkHo,Id'.one,60⟩:Sy Td) [(6,(lpG Id' 59 (hdC (loopsC (bodyOf Try.f58)) 0) 1 [(0,.c (.one (.obj 1))),(4,.c (.one (.obj 2)))] [] [⟨.us (.ext (.vw [true,false,false,false] R)),false⟩,⟨.us (.ext (.vw [true,false,false,false] (R.drop (5 * 0)))),false⟩,⟨.us (.ext (.tab (.bs (blksP R 0)))),true⟩] (.leaf (.exit 1) [(4,.c (.one (.obj 2)))] [⟨.us (.ext (.vw [true,false,false,false] R)),false⟩,⟨.us (.ext (.vw [true,false,false,false] (R.drop (5 * nbR R)))),false⟩,⟨.us (.ext (.tab (.bs (blksP R (nbR R))))),true⟩])))] Try.f58 [.one (.obj 0)] [⟨.us (.ext (.vw [true,false,false,false] R)),false⟩]).al [true])=some qs∧∀ q∈qs,q:=
 ⟨[(!allI (1:Nat) R.length (riseI R))=true,(!allI (1:Nat) R.length (riseI R))=true,R.length≤(100000:Nat),Th.ext (Dk.vw [true,false,false,false] R)=Th.ext (Dk.vw [true,false,false,false] R),∀ (w:World),Id'.holds (Th.ext (Dk.tab (TB.bs []))) w nilV∧∀ (j:Nat),¬Id'.foot (Th.ext (Dk.tab (TB.bs []))) w nilV j,Value.int IntKind.i64 (Int.ofNat 2)=Value.int IntKind.i64 (Int.ofNat 2)],by kernel_rfl,(by refine mcons ?_ (mcons ?_ (mcons ?_ (mcons ?_ (mcons ?_ (mcons ?_ mnil)))))<;>first|rfl|exact h0|exact h1|trivial|(exact nil_tab0 rfl))⟩
set_option maxRecDepth 100000 in
theorem dbkB_w0 (R:List Rw) (h0:(!allI 1 R.length (riseI R))=false) (h1:(!allI 0 R.length (isI R))=true) (h2:R.length≤100000):∃ qs,wayO Id' ([⟨.us (.ext (.vw [true,false,false,false] R)),false⟩]:Mem Td).length [⟨.us (.ext (.vw [true,false,false,false] R)),false⟩,⟨.us (.ext (.tab (.bs []))),true⟩] (.tup [.one (.obj 1),.one (.v (.int .i64 2))]) ((runFn (⟨Try.prog,[(115,ctrF Id' C_drise hardD),(116,ctrF Id' C_ctf hardD)],[],dkHo,Id'.one,60⟩:Sy Td) [(6,(lpG Id' 59 (hdC (loopsC (bodyOf Try.f58)) 0) 1 [(0,.c (.one (.obj 1))),(4,.c (.one (.obj 2)))] [] [⟨.us (.ext (.vw [true,false,false,false] R)),false⟩,⟨.us (.ext (.vw [true,false,false,false] (R.drop (5 * 0)))),false⟩,⟨.us (.ext (.tab (.bs (blksP R 0)))),true⟩] (.leaf (.exit 1) [(4,.c (.one (.obj 2)))] [⟨.us (.ext (.vw [true,false,false,false] R)),false⟩,⟨.us (.ext (.vw [true,false,false,false] (R.drop (5 * nbR R)))),false⟩,⟨.us (.ext (.tab (.bs (blksP R (nbR R))))),true⟩])))] Try.f58 [.one (.obj 0)] [⟨.us (.ext (.vw [true,false,false,false] R)),false⟩]).al [false,true])=some qs∧∀ q∈qs,q:=
 ⟨[(!allI (1:Nat) R.length (riseI R))=false,R.length≤(100000:Nat),(!allI (1:Nat) R.length (riseI R))=false,R.length≤(100000:Nat),(!allI (0:Nat) R.length (isI R))=true,Th.ext (Dk.vw [true,false,false,false] R)=Th.ext (Dk.vw [true,false,false,false] R),∀ (w:World),Id'.holds (Th.ext (Dk.tab (TB.bs []))) w nilV∧∀ (j:Nat),¬Id'.foot (Th.ext (Dk.tab (TB.bs []))) w nilV j,Value.int IntKind.i64 (Int.ofNat 2)=Value.int IntKind.i64 (Int.ofNat 2)],by kernel_rfl,(by refine mcons ?_ (mcons ?_ (mcons ?_ (mcons ?_ (mcons ?_ (mcons ?_ (mcons ?_ (mcons ?_ mnil)))))))<;>first|rfl|exact h0|exact h1|exact h2|trivial|(exact nil_tab0 rfl))⟩
set_option maxRecDepth 100000 in
theorem dbkC_w0 (R:List Rw) (h0:(!allI 1 R.length (riseI R))=false) (h1:(!allI 0 R.length (isI R))=false) (h2:decide ((R.length:Int)>24)=true) (h3:R.length≤100000):∃ qs,wayO Id' ([⟨.us (.ext (.vw [true,false,false,false] R)),false⟩]:Mem Td).length [⟨.us (.ext (.vw [true,false,false,false] R)),false⟩,⟨.us (.ext (.tab (.bs []))),true⟩] (.tup [.one (.obj 1),.one (.v (.int .i64 8))]) ((runFn (⟨Try.prog,[(115,ctrF Id' C_drise hardD),(116,ctrF Id' C_ctf hardD)],[],dkHo,Id'.one,60⟩:Sy Td) [(6,(lpG Id' 59 (hdC (loopsC (bodyOf Try.f58)) 0) 1 [(0,.c (.one (.obj 1))),(4,.c (.one (.obj 2)))] [] [⟨.us (.ext (.vw [true,false,false,false] R)),false⟩,⟨.us (.ext (.vw [true,false,false,false] (R.drop (5 * 0)))),false⟩,⟨.us (.ext (.tab (.bs (blksP R 0)))),true⟩] (.leaf (.exit 1) [(4,.c (.one (.obj 2)))] [⟨.us (.ext (.vw [true,false,false,false] R)),false⟩,⟨.us (.ext (.vw [true,false,false,false] (R.drop (5 * nbR R)))),false⟩,⟨.us (.ext (.tab (.bs (blksP R (nbR R))))),true⟩])))] Try.f58 [.one (.obj 0)] [⟨.us (.ext (.vw [true,false,false,false] R)),false⟩]).al [false,false,true])=some qs∧∀ q∈qs,q:=
 ⟨[(!allI (1:Nat) R.length (riseI R))=false,R.length≤(100000:Nat),(!allI (1:Nat) R.length (riseI R))=false,R.length≤(100000:Nat),(!allI (0:Nat) R.length (isI R))=false,decide ((↑R.length:Int)>(24:Int))=true,Th.ext (Dk.vw [true,false,false,false] R)=Th.ext (Dk.vw [true,false,false,false] R),∀ (w:World),Id'.holds (Th.ext (Dk.tab (TB.bs []))) w nilV∧∀ (j:Nat),¬Id'.foot (Th.ext (Dk.tab (TB.bs []))) w nilV j,Value.int IntKind.i64 (Int.ofNat 8)=Value.int IntKind.i64 (Int.ofNat 8)],by kernel_rfl,(by refine mcons ?_ (mcons ?_ (mcons ?_ (mcons ?_ (mcons ?_ (mcons ?_ (mcons ?_ (mcons ?_ (mcons ?_ mnil))))))))<;>first|rfl|exact h0|exact h1|exact h2|exact h3|trivial|(exact nil_tab0 rfl))⟩
set_option maxRecDepth 100000 in
theorem dbkD_w0 (R:List Rw) (h0:(!allI 1 R.length (riseI R))=false) (h1:(!allI 0 R.length (isI R))=false) (h2:decide ((R.length:Int)>24)=false) (h3:R.length≤100000):∃ qs,wayO Id' ([⟨.us (.ext (.vw [true,false,false,false] R)),false⟩]:Mem Td).length [⟨.us (.ext (.vw [true,false,false,false] R)),false⟩,⟨.us (.ext (.tab (.bs (blksP R (nbR R))))),true⟩] (.tup [.one (.obj 1),.one (.v (.int .i64 0))]) ((runFn (⟨Try.prog,[(115,ctrF Id' C_drise hardD),(116,ctrF Id' C_ctf hardD)],[],dkHo,Id'.one,60⟩:Sy Td) [(6,(lpG Id' 59 (hdC (loopsC (bodyOf Try.f58)) 0) 1 [(0,.c (.one (.obj 1))),(4,.c (.one (.obj 2)))] [] [⟨.us (.ext (.vw [true,false,false,false] R)),false⟩,⟨.us (.ext (.vw [true,false,false,false] (R.drop (5 * 0)))),false⟩,⟨.us (.ext (.tab (.bs (blksP R 0)))),true⟩] (.leaf (.exit 1) [(4,.c (.one (.obj 2)))] [⟨.us (.ext (.vw [true,false,false,false] R)),false⟩,⟨.us (.ext (.vw [true,false,false,false] (R.drop (5 * nbR R)))),false⟩,⟨.us (.ext (.tab (.bs (blksP R (nbR R))))),true⟩])))] Try.f58 [.one (.obj 0)] [⟨.us (.ext (.vw [true,false,false,false] R)),false⟩]).al [false,false,false])=some qs∧∀ q∈qs,q:=
 ⟨[(!allI (1:Nat) R.length (riseI R))=false,R.length≤(100000:Nat),(!allI (1:Nat) R.length (riseI R))=false,R.length≤(100000:Nat),(!allI (0:Nat) R.length (isI R))=false,decide ((↑R.length:Int)>(24:Int))=false,Th.ext (Dk.vw [true,false,false,false] R)=Th.ext (Dk.vw [true,false,false,false] R),Th.ext (Dk.vw [true,false,false,false] R)=Th.ext (Dk.vw [true,false,false,false] R),∀ (w:World),Id'.holds (Th.ext (Dk.tab (TB.bs (blksP R (0:Nat))))) w nilV∧∀ (j:Nat),¬Id'.foot (Th.ext (Dk.tab (TB.bs (blksP R (0:Nat))))) w nilV j,Th.ext (Dk.vw [true,false,false,false] R)=Th.ext (Dk.vw [true,false,false,false] R),Th.ext (Dk.tab (TB.bs (Nat.brecOn.go (nbR R) (blksP._f R)).1))=Th.ext (Dk.tab (TB.bs (Nat.brecOn.go (nbR R) (blksP._f R)).1)),Value.int IntKind.i64 (Int.ofNat 0)=Value.int IntKind.i64 (Int.ofNat 0)],by kernel_rfl,(by refine mcons ?_ (mcons ?_ (mcons ?_ (mcons ?_ (mcons ?_ (mcons ?_ (mcons ?_ (mcons ?_ (mcons ?_ (mcons ?_ (mcons ?_ (mcons ?_ mnil)))))))))))<;>first|rfl|exact h0|exact h1|exact h2|exact h3|trivial|(exact nil_tab0 rfl))⟩
def okP (R:List Rw):Bool:=allI 1 R.length (riseI R)&&allI 0 R.length (isI R)
def dbE (R:List Rw):Int:=bif okP R then (bif decide ((R.length:Int)>24) then 8 else 0) else 2
def dbB (R:List Rw):List (List UInt8):=bif okP R&&!decide ((R.length:Int)>24) then blksP R (nbR R) else []
def C_dblocks:Ctr Td:=fun us sub=>match us,sub with
 |[.one (.obj 0)],[⟨.us (.ext (.vw [true,false,false,false] R)),false⟩]=>some ([R.length≤1000],.tup [.one (.obj 1),.one (.v (.int .i64 (dbE R)))],[⟨.us (.ext (.vw [true,false,false,false] R)),false⟩,⟨.us (.ext (.tab (.bs (dbB R)))),true⟩])
 |_,_=>none
set_option maxRecDepth 100000 in
theorem C_dblocks_ok:CtrOk Try.prog Id' 58 C_dblocks:=by
 intro us sub ps x sm h hp w e vs hM ha
 unfold C_dblocks at h
 split at h
 ·rename_i R
  simp only [Option.some.injEq,Prod.mk.injEq] at h
  obtain ⟨rfl,rfl,rfl⟩:=h
  have hL:R.length≤1000:=hp _ (List.mem_cons_self ..)
  cases h1:(!allI 1 R.length (riseI R)) with
  |true=>
   have h1':allI 1 R.length (riseI R)=false:=by simpa using h1
   have hv:dbE R=2:=by unfold dbE okP;rw [h1'];rfl
   have hb:dbB R=[]:=by unfold dbB okP;rw [h1'];rfl
   rw [hv,hb]
   exact ctr_way (I:=Id') (fun (W0:World) (G:Nat→Prop)=>SyOk.mk2 Try.mixed dkHo_ok (FnsR.cons (R_drise) (FnsR.cons (R_ctf) (FnsR.nil))) EqsOk.nil) rfl Try.func58 (by kernel_rfl) (fun _ _=>LpsOk.cons (by kernel_rfl) (dbo_lp R (by omega) _ rfl) (LpsOk.nil _)) (cs:=[true]) (by kernel_rfl) (dbkA_w0 R h1 (by omega)) w e vs hM ha
  |false=>
   have h1':allI 1 R.length (riseI R)=true:=by simpa using h1
   cases h2:(!allI 0 R.length (isI R)) with
   |true=>
    have h2':allI 0 R.length (isI R)=false:=by simpa using h2
    have hv:dbE R=2:=by unfold dbE okP;rw [h1',h2'];rfl
    have hb:dbB R=[]:=by unfold dbB okP;rw [h1',h2'];rfl
    rw [hv,hb]
    exact ctr_way (I:=Id') (fun (W0:World) (G:Nat→Prop)=>SyOk.mk2 Try.mixed dkHo_ok (FnsR.cons (R_drise) (FnsR.cons (R_ctf) (FnsR.nil))) EqsOk.nil) rfl Try.func58 (by kernel_rfl) (fun _ _=>LpsOk.cons (by kernel_rfl) (dbo_lp R (by omega) _ rfl) (LpsOk.nil _)) (cs:=[false,true]) (by kernel_rfl) (dbkB_w0 R h1 h2 (by omega)) w e vs hM ha
   |false=>
    have h2':allI 0 R.length (isI R)=true:=by simpa using h2
    cases h3:decide ((R.length:Int)>24) with
    |true=>
     have hv:dbE R=8:=by unfold dbE okP;rw [h1',h2',h3];rfl
     have hb:dbB R=[]:=by unfold dbB okP;rw [h1',h2',h3];rfl
     rw [hv,hb]
     exact ctr_way (I:=Id') (fun (W0:World) (G:Nat→Prop)=>SyOk.mk2 Try.mixed dkHo_ok (FnsR.cons (R_drise) (FnsR.cons (R_ctf) (FnsR.nil))) EqsOk.nil) rfl Try.func58 (by kernel_rfl) (fun _ _=>LpsOk.cons (by kernel_rfl) (dbo_lp R (by omega) _ rfl) (LpsOk.nil _)) (cs:=[false,false,true]) (by kernel_rfl) (dbkC_w0 R h1 h2 h3 (by omega)) w e vs hM ha
    |false=>
     have hv:dbE R=0:=by unfold dbE okP;rw [h1',h2',h3];rfl
     have hb:dbB R=blksP R (nbR R):=by unfold dbB okP;rw [h1',h2',h3];rfl
     rw [hv,hb]
     exact ctr_way (I:=Id') (fun (W0:World) (G:Nat→Prop)=>SyOk.mk2 Try.mixed dkHo_ok (FnsR.cons (R_drise) (FnsR.cons (R_ctf) (FnsR.nil))) EqsOk.nil) rfl Try.func58 (by kernel_rfl) (fun _ _=>LpsOk.cons (by kernel_rfl) (dbo_lp R (by omega) _ rfl) (LpsOk.nil _)) (cs:=[false,false,false]) (by kernel_rfl) (dbkD_w0 R h1 h2 h3 (by omega)) w e vs hM ha
 ·cases h
theorem R_dblocks:RowOk Try.prog Id' hardD 58 (ctrF Id' C_dblocks hardD):=ctrF_ok Try.call58 C_dblocks_ok
end Go.Proofs.Ytdenmoiaiemokaa
set_option linter.unusedVariables false
set_option linter.unusedSimpArgs false
namespace Go.Proofs.Ytdenmoiaiemokaa
open Go.RowKit
def nmB (l:List Bool) (nm:ByteArray):Nat→List Bool
 |0=>l
 |k+1=>nmB l nm k++bitsOf (IntKind.u64.wrap (chI nm (k:Int))).toNat 8
theorem nmB_len (l:List Bool) (nm:ByteArray):∀ k,(nmB l nm k).length=l.length+8 * k
 |0=>rfl
 |k+1=>by simp only [nmB,List.length_append,bitsOf_length,nmB_len l nm k];omega
end Go.Proofs.Ytdenmoiaiemokaa
set_option linter.unusedVariables false
set_option linter.unusedSimpArgs false
namespace Go.Proofs.Ytdenmoiaiemokaa
open Go.RowKit
def entB (l:List Bool) (r:Rw):List Bool:=nmB (l++bitsOf (IntKind.u64.wrap ((r.ss.getD 0 ⟨#[]⟩).size:Int)).toNat 5++bitsOf (IntKind.u64.wrap (r.is.getD 0 0)).toNat 6++bitsOf (IntKind.u64.wrap (r.is.getD 1 0)).toNat 31++bitsOf (IntKind.u64.wrap (r.is.getD 2 0)).toNat 2) (r.ss.getD 0 ⟨#[]⟩) 16
def entsB (R:List Rw):Nat→List Bool
 |0=>[]
 |k+1=>entB (entsB R k) (R.getD k Rw.zero)
theorem entB_len (l:List Bool) (r:Rw):(entB l r).length=l.length+172:=by
 unfold entB
 rw [nmB_len]
 simp only [List.length_append,bitsOf_length]
theorem entsB_len (R:List Rw):∀ k,(entsB R k).length=172 * k
 |0=>rfl
 |k+1=>by show (entB (entsB R k) _).length=_;rw [entB_len,entsB_len R k];omega
end Go.Proofs.Ytdenmoiaiemokaa
set_option linter.unusedVariables false
set_option linter.unusedSimpArgs false
namespace Go.Proofs.Ytdenmoiaiemokaa
open Go.RowKit
def padL (x:List UInt8) (k:Nat):List UInt8:=x++List.replicate k 0
end Go.Proofs.Ytdenmoiaiemokaa
set_option linter.unusedVariables false
set_option linter.unusedSimpArgs false
namespace Go.Proofs.Ytdenmoiaiemokaa
open Go.RowKit
def blkD (R:List Rw):List UInt8:=padL (packed (entsB R R.length)) (128 - (packed (entsB R R.length)).length)
end Go.Proofs.Ytdenmoiaiemokaa
set_option linter.unusedVariables false
set_option linter.unusedSimpArgs false
namespace Go.Proofs.Ytdenmoiaiemokaa
open Go.RowKit
def blksD (R:List Rw):Nat→List (List UInt8)
 |0=>[]
 |k+1=>blksD R k++[blkD ((R.drop (5 * k)).take 5)]
end Go.Proofs.Ytdenmoiaiemokaa
set_option linter.unusedVariables false
set_option linter.unusedSimpArgs false
namespace Go.Proofs.Ytdenmoiaiemokaa
open Go.RowKit
def rbB (R:List Rw):List (List UInt8):=bif allI 0 R.length (riseD R)&&!decide ((R.length:Int)>24) then blksD R (nbR R) else []
end Go.Proofs.Ytdenmoiaiemokaa
set_option linter.unusedVariables false
namespace Go.Proofs.Ytdenmoiaiemokaa
open Go.RowKit
theorem less_tri:∀ a b:List UInt8,(!Op.bytesLess a b)=(Op.bytesLess b a||b==a)
 |[],[]=>rfl
 |[],y::ys=>rfl
 |x::xs,[]=>rfl
 |x::xs,y::ys=>by
  have ih:=less_tri xs ys
  simp only [Op.bytesLess]
  by_cases h1:x<y
  ·simp [h1,UInt8.lt_asymm h1,UInt8.ne_of_lt h1,(UInt8.ne_of_lt h1).symm]
  ·by_cases h2:y<x
   ·simp [h1,h2,UInt8.ne_of_lt h2,(UInt8.ne_of_lt h2).symm]
   ·have:x=y:=UInt8.le_antisymm (UInt8.not_lt.1 h2) (UInt8.not_lt.1 h1)
    subst this
    simp [h1,ih]
theorem allI_iff {o n:Nat} {p:Int→Bool}:allI o n p=true↔∀ i:Int,(o:Int)≤i→i.toNat<n→p i=true:=by
 rcases allI_cases o n p with ⟨h,g⟩|⟨h,i,g1,g2,g3⟩
 ·exact ⟨fun _=>g,fun _=>h⟩
 ·refine ⟨fun e=>(by rw [h] at e;cases e),fun e=>?_⟩
  rw [e i g1 g2] at g3;cases g3
theorem riseD_is (R:List Rw) (i:Int):riseD R i=(isI R i&&(!decide (i>0)||riseI R i)):=by
 unfold riseD riseI
 rw [← less_tri]
 cases isI R i<;>cases decide (i>0)<;>simp
theorem okP_is (R:List Rw):okP R=allI 0 R.length (riseD R):=by
 rw [Bool.eq_iff_iff]
 unfold okP
 rw [Bool.and_eq_true,allI_iff,allI_iff,allI_iff]
 constructor
 ·rintro ⟨h1,h2⟩ i h0 hn
  rw [riseD_is,h2 i h0 hn,Bool.true_and]
  by_cases h:i>0
  ·rw [h1 i (by omega) hn];simp
  ·rw [decide_eq_false h];rfl
 ·intro h
  refine ⟨fun i h0 hn=>?_,fun i h0 hn=>?_⟩
  ·have:=h i (by omega) hn
   rw [riseD_is,Bool.and_eq_true,decide_eq_true (show i>0 by omega)] at this
   simpa using this.2
  ·have:=h i h0 hn
   rw [riseD_is,Bool.and_eq_true] at this
   exact this.1
end Go.Proofs.Ytdenmoiaiemokaa
set_option linter.unusedVariables false
namespace Go.Proofs.Ytdenmoiaiemokaa
open Go.RowKit
theorem put_fit {s:WS} {x n:Int} (he:s.err=0) (hf:fitsN x.toNat n):(s.put x n).bl=s.bl++bitsOf x.toNat n.toNat∧(s.put x n).err=0:=by
 simp only [WS.put,putL,putE]
 rw [if_pos ⟨he,hf⟩,if_neg (fun h=>h.2 hf)]
 exact ⟨rfl,he⟩
theorem chI_in (nm:ByteArray) (i:Int):0≤chI nm i∧chI nm i<256:=by
 unfold chI
 cases decide (i<(nm.size:Int)) with
 |true=>have:=(nm.data.toList.getD i.toNat 0).toNat_lt;simp only [cond_true];omega
 |false=>simp
theorem putN_fit {s:WS} (nm:ByteArray) (he:s.err=0):∀ k,(putN s nm k).bl=nmB s.bl nm k∧(putN s nm k).err=0
 |0=>⟨rfl,he⟩
 |k+1=>by
  obtain ⟨h1,h2⟩:=putN_fit nm he k
  have hc:=chI_in nm (k:Int)
  have h:=put_fit (x:=chI nm (k:Int)) (n:=8) h2 ⟨by decide,by decide,by show _<256;omega⟩
  refine ⟨?_,h.2⟩
  show ((putN s nm k).put (chI nm (k:Int)) 8).bl=nmB s.bl nm k++bitsOf (IntKind.u64.wrap (chI nm (k:Int))).toNat 8
  rw [h.1,h1,u64w_id (by omega)];rfl
theorem isE_in {nm:ByteArray} {a b c:Int} (h:isE nm a b c=true):nm.size<17∧(0<a∧a<41)∧(0≤b∧b<2147483648)∧(0<c∧c<3):=by
 unfold isE nameB at h
 simp only [Bool.and_eq_true,decide_eq_true_eq] at h
 omega
theorem putR_fit {s:WS} {r:Rw} (he:s.err=0) (h:isR r=true):(putR s r).bl=entB s.bl r∧(putR s r).err=0:=by
 obtain ⟨hn,ha,hb,hc⟩:=isE_in h
 have w1:=u64w_id (n:=((r.ss.getD 0 ⟨#[]⟩).size:Int)) (by omega)
 have w2:=u64w_id (n:=r.is.getD 0 0) (by omega)
 have w3:=u64w_id (n:=r.is.getD 1 0) (by omega)
 have w4:=u64w_id (n:=r.is.getD 2 0) (by omega)
 have p1:=put_fit (s:=s) (x:=IntKind.u64.wrap ((r.ss.getD 0 ⟨#[]⟩).size:Int)) (n:=5) he ⟨by decide,by decide,by rw [w1];show _<32;omega⟩
 have p2:=put_fit (x:=IntKind.u64.wrap (r.is.getD 0 0)) (n:=6) p1.2 ⟨by decide,by decide,by rw [w2];show _<64;omega⟩
 have p3:=put_fit (x:=IntKind.u64.wrap (r.is.getD 1 0)) (n:=31) p2.2 ⟨by decide,by decide,by rw [w3];show _<2147483648;omega⟩
 have p4:=put_fit (x:=IntKind.u64.wrap (r.is.getD 2 0)) (n:=2) p3.2 ⟨by decide,by decide,by rw [w4];show _<4;omega⟩
 have p5:=putN_fit (r.ss.getD 0 ⟨#[]⟩) p4.2 16
 refine ⟨?_,p5.2⟩
 show (putN _ _ 16).bl=_
 rw [p5.1,p4.1,p3.1,p2.1,p1.1];rfl
theorem putsW_fit {Y:List Rw} (h:∀ r∈Y,isR r=true):∀ k,k≤Y.length→(putsW .new Y k).bl=entsB Y k∧(putsW .new Y k).err=0
 |0,_=>⟨rfl,rfl⟩
 |k+1,hk=>by
  obtain ⟨h1,h2⟩:=putsW_fit h k (by omega)
  have hr:isR (Y.getD k Rw.zero)=true:=by
   rw [List.getD_eq_getElem?_getD,List.getElem?_eq_getElem (show k<Y.length by omega)]
   exact h _ (List.getElem_mem _)
  have p:=putR_fit (r:=Y.getD k Rw.zero) h2 hr
  refine ⟨?_,p.2⟩
  show (putR (putsW .new Y k) (Y.getD k Rw.zero)).bl=entB (entsB Y k) (Y.getD k Rw.zero)
  rw [p.1,h1]
theorem blk_is {Y:List Rw} (h:∀ r∈Y,isR r=true) (hl:Y.length≤5):blkP Y=blkD Y:=by
 obtain ⟨h1,h2⟩:=putsW_fit h Y.length (Nat.le_refl _)
 have ho:(putsW .new Y Y.length).out=packed (entsB Y Y.length):=by unfold WS.out;rw [if_pos h2,h1]
 have hn:=out_len Y hl
 unfold blkP blkD padL
 rw [w128 hl,ho]
 rw [ho] at hn
 congr 2
 omega
theorem blks_is {R:List Rw} (h:∀ r∈R,isR r=true):∀ k,blksP R k=blksD R k
 |0=>rfl
 |k+1=>by
  show blksP R k++_=blksD R k++_
  rw [blks_is h k,blk_is (fun r hr=>h r (List.mem_of_mem_drop (List.mem_of_mem_take hr))) (List.length_take_le ..)]
theorem dbB_is (R:List Rw):dbB R=rbB R:=by
 unfold dbB rbB
 rw [← okP_is]
 cases h:okP R with
 |false=>rfl
 |true=>
  rw [blks_is fun r hr=>?_]
  have h2:=(Bool.and_eq_true_iff.1 h).2
  obtain ⟨j,hj,rfl⟩:=List.getElem_of_mem hr
  have:=allI_iff.1 h2 (j:Int) (by omega) (by simpa using hj)
  unfold isI at this
  rw [Int.toNat_natCast,List.getD_eq_getElem?_getD,List.getElem?_eq_getElem hj] at this
  exact this
end Go.Proofs.Ytdenmoiaiemokaa
set_option linter.unusedVariables false
set_option linter.unusedSimpArgs false
namespace Go.Proofs.Ytdenmoiaiemokaa
open Go.RowKit
set_option maxRecDepth 100000 in
theorem few_n (R X Y:List Rw) (n:Int) (i i2:Int) (k:Nat) (f:Nat→Value) (h0:(decide (i<(R.length:Int))&&decide (i<n))=true) (h1:IntKind.i64.wrap (i+1)=i2) (h2:0≤i∧i.toNat<R.length) (h3:X.length+1≤100000) (h4:X++[⟨[(R.getD i.toNat Rw.zero).is.getD 0 0,(R.getD i.toNat Rw.zero).is.getD 1 0,(R.getD i.toNat Rw.zero).is.getD 2 0],[shortT ((R.getD i.toNat Rw.zero).ss.getD 0 ⟨#[]⟩) 20]⟩]=Y):∃ qs,alN Id' 1 [(6,.c (.one (.v (.int .i64 i2)))),(5,.c (.one (.obj 1)))] [⟨.us (.ext (.vw [true,false,false,false] R)),false⟩,⟨.us (.ext (.flat (.rw 109 [true,false,false,false] Y))),true⟩] ((symC (⟨Try.prog,[F_rshort (ξ:=Dk)],[],dkHo,Id'.one,60⟩:Sy Td) [] 32 (hdC (loopsC (bodyOf Try.f57)) 0) ⟨[(6,.c (.one (.v (.int .i64 i)))),(5,.c (.one (.obj 1)))]++anyB' (writesC (hdC (loopsC (bodyOf Try.f57)) 0)) ([(0,.c (.one (.obj 0))),(1,.c (.one (.v (.int .i64 n))))]++tabV f 32),[⟨.us (.ext (.vw [true,false,false,false] R)),false⟩,⟨.us (.ext (.flat (.rw 109 [true,false,false,false] X))),true⟩],0⟩).al [true])=some qs∧∀ q∈qs,q:=
 ⟨[(decide (i<(↑R.length:Int))&&decide (i<n))=true,(0:Int)≤i∧i.toNat<R.length,(20:Nat)≤(9223372036854775807:Nat),X.length+[Rw.mk [(R.getD i.toNat Rw.zero).is.getD (0:Nat) (0:Int),(R.getD i.toNat Rw.zero).is.getD ((0:Nat)+(1:Nat)) (0:Int),(R.getD i.toNat Rw.zero).is.getD ((0:Nat)+(1:Nat)+(1:Nat)) (0:Int)] [shortT ((R.getD i.toNat Rw.zero).ss.getD (0:Nat) (ByteArray.mk #[])) 20]].length≤(100000:Nat),Th.ext (Dk.vw [true,false,false,false] R)=Th.ext (Dk.vw [true,false,false,false] R),(Th.ext (Dk.flat (FL.rw 109 [true,false,false,false] (X++[⟨[(R.getD i.toNat Rw.zero).is.getD 0 0,(R.getD i.toNat Rw.zero).is.getD 1 0,(R.getD i.toNat Rw.zero).is.getD 2 0],[shortT ((R.getD i.toNat Rw.zero).ss.getD 0 ⟨#[]⟩) 20]⟩]))):Td)=Th.ext (Dk.flat (FL.rw 109 [true,false,false,false] Y)),Value.int IntKind.i64 (IntKind.i64.wrap (i+(1:Int)))=Value.int IntKind.i64 i2],by kernel_rfl,(mcons h0 (mcons h2 (mcons (by decide) (mcons h3 (mcons rfl (mcons (congrArg (fun x=>(Th.ext (Dk.flat (FL.rw 109 [true,false,false,false] x)):Td)) h4) (mcons (congrArg (Value.int .i64) h1) mnil)))))))⟩
set_option maxRecDepth 100000 in
theorem few_x (R X Y:List Rw) (n:Int) (i i2:Int) (k:Nat) (f:Nat→Value) (h0:(decide (i<(R.length:Int))&&decide (i<n))=false) (h1:X=Y):∃ qs,alX Id' 1 0 [(5,.c (.one (.obj 1)))] [⟨.us (.ext (.vw [true,false,false,false] R)),false⟩,⟨.us (.ext (.flat (.rw 109 [true,false,false,false] Y))),true⟩] ((symC (⟨Try.prog,[F_rshort (ξ:=Dk)],[],dkHo,Id'.one,60⟩:Sy Td) [] 32 (hdC (loopsC (bodyOf Try.f57)) 0) ⟨[(6,.c (.one (.v (.int .i64 i)))),(5,.c (.one (.obj 1)))]++anyB' (writesC (hdC (loopsC (bodyOf Try.f57)) 0)) ([(0,.c (.one (.obj 0))),(1,.c (.one (.v (.int .i64 n))))]++tabV f 32),[⟨.us (.ext (.vw [true,false,false,false] R)),false⟩,⟨.us (.ext (.flat (.rw 109 [true,false,false,false] X))),true⟩],0⟩).al [false])=some qs∧∀ q∈qs,q:=
 ⟨[(decide (i<(↑R.length:Int))&&decide (i<n))=false,Th.ext (Dk.vw [true,false,false,false] R)=Th.ext (Dk.vw [true,false,false,false] R),Th.ext (Dk.flat (FL.rw 109 [true,false,false,false] X))=Th.ext (Dk.flat (FL.rw 109 [true,false,false,false] Y))],by kernel_rfl,(by refine mcons ?_ (mcons ?_ (mcons ?_ mnil))<;>first|rfl|exact h0|exact h1|trivial|(exact congrArg (fun x=>(Th.ext (Dk.flat (FL.rw 109 [true,false,false,false] x)):Td)) h1))⟩
def shR (r:Rw):Rw:=⟨[r.is.getD 0 0,r.is.getD 1 0,r.is.getD 2 0],[shortT (r.ss.getD 0 ⟨#[]⟩) 20]⟩
def fewK (R:List Rw):Nat→List Rw
 |0=>[]
 |k+1=>fewK R k++[shR (R.getD k Rw.zero)]
theorem fewK_len (R:List Rw):∀ k,(fewK R k).length=k
 |0=>rfl
 |k+1=>by simp [fewK,fewK_len R k]
def fewR (R:List Rw) (n:Int):List Rw:=fewK R (min R.length n.toNat)
set_option maxRecDepth 100000 in
theorem few_lp (R:List Rw) (n:Int) (hn:0≤n∧n≤1000) {W0:World} {G:Nat→Prop} (S0:Sy Td) (hS0:S0.P=Try.prog):LoopSound S0 Id' W0 G 32 (hdC (loopsC (bodyOf Try.f57)) 0) (lpG Id' 32 (hdC (loopsC (bodyOf Try.f57)) 0) 1 [(6,.c (.one (.v (.int .i64 ((0:Nat):Int))))),(5,.c (.one (.obj 1)))] [(0,.c (.one (.obj 0))),(1,.c (.one (.v (.int .i64 n))))] [⟨.us (.ext (.vw [true,false,false,false] R)),false⟩,⟨.us (.ext (.flat (.rw 109 [true,false,false,false] (fewK R 0)))),true⟩] (.leaf (.exit 0) [(5,.c (.one (.obj 1)))] [⟨.us (.ext (.vw [true,false,false,false] R)),false⟩,⟨.us (.ext (.flat (.rw 109 [true,false,false,false] (fewR R n)))),true⟩])):=by
 refine lp_sound (V:=fun k=>[(6,.c (.one (.v (.int .i64 (k:Int))))),(5,.c (.one (.obj 1)))]) (M:=(fun k=>[⟨.us (.ext (.vw [true,false,false,false] R)),false⟩,⟨.us (.ext (.flat (.rw 109 [true,false,false,false] (fewK R k)))),true⟩]:Nat→Mem Td)) (N:=min R.length n.toNat) (Ux:=fun k x=>match x with|.exit 0=>some ([(5,.c (.one (.obj 1)))],([⟨.us (.ext (.vw [true,false,false,false] R)),false⟩,⟨.us (.ext (.flat (.rw 109 [true,false,false,false] (fewR R n)))),true⟩]:Mem Td))|_=>none) (X:=fun _ _=>True) (J:=fun k=>k≤min R.length n.toNat) (fun k=>by kernel_rfl) (Nat.zero_le _) (fun k hk hJ f=>?_) (fun K hK k x U hk hU hX=>?_)
 ·rw [hS0]
  have hl:=fewK_len R k
  cases hT:(decide ((k:Int)<(R.length:Int))&&decide ((k:Int)<n)) with
  |false=>
   have hke:k=min R.length n.toNat:=by
    rw [Bool.and_eq_false_iff] at hT
    rcases hT with h|h<;> · have:=of_decide_eq_false h;omega
   exact rnd_xD (⟨Try.prog,[F_rshort (ξ:=Dk)],[],dkHo,Id'.one,60⟩:Sy Td) rfl ((fun (W0:World) (G:Nat→Prop)=>SyOk.mk2 Try.mixed dkHo_ok (FnsR.cons (F_rshort_ok (J:=dkI) (hx:=hardDk)) (FnsR.nil)) EqsOk.nil) W0 G) (few_x R (fewK R k) (fewR R n) n (k:Int) 0 k f hT (by rw [hke];rfl)) rfl trivial
  |true=>
   rw [Bool.and_eq_true] at hT
   have h1:=of_decide_eq_true hT.1
   have h2:=of_decide_eq_true hT.2
   have hW:IntKind.i64.wrap ((k:Int)+1)=((k+1:Nat):Int):=by rw [IntWalk.i64_in _ (by omega)];omega
   exact rnd_nD (⟨Try.prog,[F_rshort (ξ:=Dk)],[],dkHo,Id'.one,60⟩:Sy Td) rfl ((fun (W0:World) (G:Nat→Prop)=>SyOk.mk2 Try.mixed dkHo_ok (FnsR.cons (F_rshort_ok (J:=dkI) (hx:=hardDk)) (FnsR.nil)) EqsOk.nil) W0 G) (few_n R (fewK R k) (fewK R (k+1)) n (k:Int) ((k+1:Nat):Int) k f (by rw [hT.1,hT.2];rfl) hW (by omega) (by omega) (by rw [Int.toNat_natCast];rfl)) rfl rfl (by omega) (by omega)
 ·revert hU
  match x with
  |.exit 0=>intro hU;simp only [Option.some.injEq] at hU;subst hU;exact hK
  |.normal=>intro hU;cases hU
  |.ret=>intro hU;cases hU
  |.exit (n+1)=>intro hU;cases hU
end Go.Proofs.Ytdenmoiaiemokaa
set_option linter.unusedVariables false
set_option linter.unusedSimpArgs false
namespace Go.Proofs.Ytdenmoiaiemokaa
open Go.RowKit
set_option maxRecDepth 100000 in
theorem few_w0 (R:List Rw) (n:Int) :∃ qs,wayO Id' ([⟨.us (.ext (.vw [true,false,false,false] R)),false⟩]:Mem Td).length [⟨.us (.ext (.vw [true,false,false,false] R)),false⟩,⟨.us (.ext (.flat (.rw 109 [true,false,false,false] (fewR R n)))),true⟩] (.c (.one (.obj 1))) ((runFn (⟨Try.prog,[F_rshort (ξ:=Dk)],[],dkHo,Id'.one,60⟩:Sy Td) [(3,(lpG Id' 32 (hdC (loopsC (bodyOf Try.f57)) 0) 1 [(6,.c (.one (.v (.int .i64 ((0:Nat):Int))))),(5,.c (.one (.obj 1)))] [(0,.c (.one (.obj 0))),(1,.c (.one (.v (.int .i64 n))))] [⟨.us (.ext (.vw [true,false,false,false] R)),false⟩,⟨.us (.ext (.flat (.rw 109 [true,false,false,false] (fewK R 0)))),true⟩] (.leaf (.exit 0) [(5,.c (.one (.obj 1)))] [⟨.us (.ext (.vw [true,false,false,false] R)),false⟩,⟨.us (.ext (.flat (.rw 109 [true,false,false,false] (fewR R n)))),true⟩])))] Try.f57 [.one (.obj 0),.one (.v (.int .i64 n))] [⟨.us (.ext (.vw [true,false,false,false] R)),false⟩]).al [])=some qs∧∀ q∈qs,q:=
 ⟨[Value.int IntKind.i64 n=Value.int IntKind.i64 n,Th.ext (Dk.vw [true,false,false,false] R)=Th.ext (Dk.vw [true,false,false,false] R),∀ (w:World),Id'.holds (Th.ext (Dk.flat (FL.rw (109:TypeId) [true,false,false,false] (fewK R (0:Nat))))) w nilV∧∀ (j:Nat),¬Id'.foot (Th.ext (Dk.flat (FL.rw (109:TypeId) [true,false,false,false] (fewK R (0:Nat))))) w nilV j,Value.int IntKind.i64 (Int.ofNat 0)=Value.int IntKind.i64 (Int.ofNat (0:Nat)),Th.ext (Dk.vw [true,false,false,false] R)=Th.ext (Dk.vw [true,false,false,false] R),Th.ext (Dk.flat (FL.rw 109 [true,false,false,false] (Nat.brecOn.go (min R.length n.toNat) (fewK._f R)).1))=Th.ext (Dk.flat (FL.rw 109 [true,false,false,false] (Nat.brecOn.go (min R.length n.toNat) (fewK._f R)).1))],by kernel_rfl,(by refine mcons ?_ (mcons ?_ (mcons ?_ (mcons ?_ (mcons ?_ (mcons ?_ mnil)))))<;>first|rfl|trivial|(exact nil_rows rfl))⟩
def C_few:Ctr Td:=fun us sub=>match us,sub with
 |[.one (.obj 0),.one (.v (.int .i64 n))],[⟨.us (.ext (.vw [true,false,false,false] R)),false⟩]=>some ([0≤n∧n≤1000],.c (.one (.obj 1)),[⟨.us (.ext (.vw [true,false,false,false] R)),false⟩,⟨.us (.ext (.flat (.rw 109 [true,false,false,false] (fewR R n)))),true⟩])
 |_,_=>none
set_option maxRecDepth 100000 in
theorem C_few_ok:CtrOk Try.prog Id' 57 C_few:=by
 intro us sub ps x sm h hp w e vs hM ha
 unfold C_few at h
 split at h
 ·rename_i n R
  simp only [Option.some.injEq,Prod.mk.injEq] at h
  obtain ⟨rfl,rfl,rfl⟩:=h
  have hn:0≤n∧n≤1000:=hp _ (List.mem_cons_self ..)
  exact ctr_way (I:=Id') (fun (W0:World) (G:Nat→Prop)=>SyOk.mk2 Try.mixed dkHo_ok (FnsR.cons (F_rshort_ok (J:=dkI) (hx:=hardDk)) (FnsR.nil)) EqsOk.nil) rfl Try.func57 (by kernel_rfl) (fun _ _=>LpsOk.cons (by kernel_rfl) (few_lp R n hn _ rfl) (LpsOk.nil _)) (cs:=[]) (by kernel_rfl) (few_w0 R n ) w e vs hM ha
 ·cases h
end Go.Proofs.Ytdenmoiaiemokaa
set_option linter.unusedVariables false
set_option linter.unusedSimpArgs false
namespace Go.Proofs.Ytdenmoiaiemokaa
open Go.RowKit
def gU (s:RS):UInt8:=UInt8.ofNat (IntKind.u8.wrap (s.num 8:Int)).toNat
def gL:Nat→RS→List UInt8
 |0,_=>[]
 |n+1,s=>gU s::gL n (s.get 8)
def gS:Nat→RS→RS
 |0,s=>s
 |n+1,s=>gS n (s.get 8)
def gN (s:RS):Int:=if (16:Int)<IntKind.i64.wrap (s.num 5:Int) then 16 else IntKind.i64.wrap (s.num 5:Int)
def g4 (s:RS):RS:=(((s.get 5).get 6).get 31).get 2
def gNm (s:RS):ByteArray:=⟨((gL 16 (g4 s)).take (gN s).toNat).toArray⟩
def gA (s:RS):Int:=IntKind.i64.wrap ((s.get 5).num 6:Int)
def gB (s:RS):Int:=IntKind.i64.wrap (((s.get 5).get 6).num 31:Int)
def gC (s:RS):Int:=IntKind.i64.wrap ((((s.get 5).get 6).get 31).num 2:Int)
def gE (s:RS):RS:=gS 16 (g4 s)
def gVs:Nat→RS→List Value
 |0,_=>[]
 |n+1,s=>.int .u8 (IntKind.u8.wrap (s.num 8:Int))::gVs n (s.get 8)
theorem u8w_in (x:Int):0≤IntKind.u8.wrap x∧IntKind.u8.wrap x<256:=by
 show 0≤x % 256∧x % 256<256
 omega
theorem u8w_bv (x:Int):(.int .u8 (IntKind.u8.wrap x):Value)=bv (UInt8.ofNat (IntKind.u8.wrap x).toNat):=by
 have h:=u8w_in x
 unfold bv
 congr 1
 rw [UInt8.toNat_ofNat']
 omega
theorem gVs_bv:∀ (n:Nat) (s:RS),gVs n s=(unb (gVs n s)).map bv
 |0,_=>rfl
 |n+1,s=>by
  show _::_=_::_
  congr 1
  ·exact u8w_bv _
  ·exact gVs_bv n (s.get 8)
theorem gN_le (s:RS):(gN s).toNat≤16:=by unfold gN;split<;>omega
theorem RS.num_lt (s:RS) (n:Nat):s.num (n:Int)<2 ^ n:=by
 unfold RS.num getV
 split
 ·have h:=val_lt (bitsFrom s.l s.at' (n:Int).toNat)
  refine Nat.lt_of_lt_of_le h (Nat.pow_le_pow_right (by decide) ?_)
  unfold bitsFrom
  rw [Int.toNat_natCast]
  exact List.length_take_le ..
 ·exact Nat.pow_pos (by decide)
theorem gN_in (s:RS):0≤gN s∧gN s≤16:=by
 have h:=RS.num_lt s 5
 have:IntKind.i64.wrap (s.num 5:Int)=(s.num 5:Int):=IntWalk.i64_in _ (by
  have:(s.num ((5:Nat):Int))<32:=h
  have e:(s.num ((5:Nat):Int))=s.num 5:=rfl
  omega)
 unfold gN
 rw [this]
 split<;>omega
set_option maxRecDepth 100000 in
theorem dget_w0 (s:RS):∃ qs,wayO Id' ([⟨.us (.rd s),true⟩]:Mem Td).length [⟨.us (.rd (gE s)),true⟩] (.c (.agg [.v (.string (gNm s)),.v (.int .i64 (gA s)),.v (.int .i64 (gB s)),.v (.int .i64 (gC s))])) ((runFn (⟨Try.prog,[F_get (ξ:=Dk) (hx:=hardDk)],[],dkHo,Id'.one,60⟩:Sy Td) [] Try.f125 [.one (.obj 0)] [⟨.us (.rd s),true⟩]).al [])=some qs∧∀ q∈qs,q:=
 ⟨[(gN s).toNat≤(gVs 16 (g4 s)).length∧(gN s).toNat≤16∧16≤maxLen,gVs 16 (g4 s)=(unb (gVs 16 (g4 s))).map bv,0≤gN s∧gN s≤16,(Th.rd (gE s):Td)=Th.rd (gE s),Value.string (gNm s)=Value.string (gNm s),Value.int .i64 (gA s)=Value.int .i64 (gA s),Value.int .i64 (gB s)=Value.int .i64 (gB s),Value.int .i64 (gC s)=Value.int .i64 (gC s)],by kernel_rfl,(mcons (⟨by show _≤16;exact gN_le s,gN_le s,by decide⟩) (mcons (gVs_bv 16 _) (mcons (gN_in s) (mcons (rfl) (mcons (rfl) (mcons (rfl) (mcons (rfl) (mcons (rfl) mnil))))))))⟩
def C_dget:Ctr Td:=fun us sub=>match us,sub with
 |[.one (.obj 0)],[⟨.us (.rd s),true⟩]=>some ([],.c (.agg [.v (.string (gNm s)),.v (.int .i64 (gA s)),.v (.int .i64 (gB s)),.v (.int .i64 (gC s))]),[⟨.us (.rd (gE s)),true⟩])
 |_,_=>none
set_option maxRecDepth 100000 in
theorem C_dget_ok:CtrOk Try.prog Id' 125 C_dget:=by
 intro us sub ps x sm h hp w e vs hM ha
 unfold C_dget at h
 split at h
 ·rename_i s
  simp only [Option.some.injEq,Prod.mk.injEq] at h
  obtain ⟨rfl,rfl,rfl⟩:=h
  exact ctr_way (I:=Id') (fun (W0:World) (G:Nat→Prop)=>SyOk.mk2 Try.mixed dkHo_ok (FnsR.cons (F_get_ok (J:=dkI) (hx:=hardDk)) (FnsR.nil)) EqsOk.nil) rfl Try.func125 (by kernel_rfl) (fun _ _=>LpsOk.nil _) (cs:=[]) (by kernel_rfl) (dget_w0 s ) w e vs hM ha
 ·cases h
theorem R_dget:RowOk Try.prog Id' hardD 125 (ctrF Id' C_dget hardD):=ctrF_ok Try.call125 C_dget_ok
end Go.Proofs.Ytdenmoiaiemokaa
