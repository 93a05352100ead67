/- W38 RC1 RC2 W39 W40 W41 Q1 Q2. -/
import Derived.Test.YtdenmoiaiemokaaW37p
import Derived.Test.YtdenmoiaiemokaaG3p
import Derived.Test.YtdenmoiaiemokaaF2p
import Derived.Test.YtdenmoiaiemokaaH9p
import Derived.Test.YtdenmoiaiemokaaT20p
import Derived.Test.YtdenmoiaiemokaaBasep
import Derived.Deep.QuietTactic
import Derived.Test.YtdenmoiaiemokaaH3p
set_option linter.unusedVariables false
set_option linter.unusedSimpArgs false
namespace Go.Proofs.Ytdenmoiaiemokaa
open Go.RowKit
theorem rwNil (t:TypeId) (ks:List Bool):∀ (w:World),Id'.holds (Th.ext (Dk.flat (FL.rw t ks []))) w nilV∧∀ (j:Nat),¬Id'.foot (Th.ext (Dk.flat (FL.rw t ks []))) w nilV j:=fun w=>⟨⟨(fun r hr=>by cases hr),0,Nat.zero_le _,World.ownsRow_nil _ _ _ _⟩,fun j h=>by cases h⟩
theorem vwNil:∀ (w:World),Id'.holds (Th.ext (Dk.vw [true,false,false,false] [])) w nilV∧∀ (j:Nat),¬Id'.foot (Th.ext (Dk.vw [true,false,false,false] [])) w nilV j:=fun w=>⟨⟨by decide,Rs.nil w 4⟩,fun j h=>h.1 rfl⟩
set_option maxRecDepth 100000 in
theorem dentA_w0 (L:List (List UInt8)) (h0:((stO L L.length)).length≤(1000:Nat)) (h1:(dbB (stO L L.length)).length≤(100000:Nat)) (h2:(dbE (stO L L.length) != (0:Int))=true):∃ qs,wayO Id' ([⟨.us (.ext (.shr 1 L.length (tbE L))),false⟩]:Mem Td).length [⟨.us (.ext (.shr 1 L.length (tbE L))),false⟩,⟨.us (.ext (.vw [true,false,false,false] ([]:List Rw))),false⟩] (.tup [.one (.obj 1),.one (.v (.int .i64 4))]) ((runFn (⟨Try.prog,[(58,ctrF Id' C_dblocks hardD),(126,ctrF Id' (wkC (C_eqf (dbB (stO L L.length)) L)) hardD)],[],dkHo,Id'.one,60⟩:Sy Td) [(3,(lpG Id' 46 (hdC (loopsC (bodyOf Try.f61)) 0) 1 [(13,.c (.one (.v (.int .i64 ((0:Nat):Int))))),(4,.c (.one (.obj 1)))] [(0,.c (.one (.obj 0))),(11,.c (.one (.obj 0))),(12,.c (.one (.v (.int .i64 (L.length:Int)))))] [⟨.us (.ext (.shr 1 L.length (tbE L))),false⟩,⟨.us (.ext (.flat (.rw 109 [true,false,false,false] (stO L 0)))),true⟩] (.leaf (.exit 0) [(4,.c (.one (.obj 1)))] [⟨.us (.ext (.shr 1 L.length (tbE L))),false⟩,⟨.us (.ext (.flat (.rw 109 [true,false,false,false] (stO L L.length)))),true⟩]))),(100013,mapG (modAt wkE 1) (⟨Try.prog,[(58,ctrF Id' C_dblocks hardD)],[],dkHo,Id'.one,60⟩:Sy Td) 46 (regO 13 (bodyOf Try.f61)) (drwR 13 (bodyOf Try.f61)))] Try.f61 [.one (.obj 0)] [⟨.us (.ext (.shr 1 L.length (tbE L))),false⟩]).al [true])=some qs∧∀ q∈qs,q:=
 ⟨[Value.int IntKind.i64 (↑L.length:Int)=Value.int IntKind.i64 (↑L.length:Int),Th.ext (Dk.shr 1 L.length (tbE L))=Th.ext (Dk.shr 1 L.length (tbE L)),∀ (w:World),Id'.holds (Th.ext (Dk.flat (FL.rw 109 [true,false,false,false] (stO L 0)))) w nilV∧∀ (j:Nat),¬Id'.foot (Th.ext (Dk.flat (FL.rw 109 [true,false,false,false] (stO L 0)))) w nilV j,Value.int IntKind.i64 (Int.ofNat 0)=Value.int IntKind.i64 (Int.ofNat (0:Nat)),(stO L L.length).length≤(1000:Nat),(dbE (stO L L.length) != (0:Int))=true,(dbE (stO L L.length) != (0:Int))=true,Th.ext (Dk.shr 1 L.length (tbE L))=Th.ext (Dk.shr 1 L.length (tbE L)),∀ (w:World),Id'.holds (Th.ext (Dk.vw [true,false,false,false] [])) w nilV∧∀ (j:Nat),¬Id'.foot (Th.ext (Dk.vw [true,false,false,false] [])) w nilV j,Value.int IntKind.i64 (Int.ofNat 4)=Value.int IntKind.i64 (Int.ofNat 4)],by kernel_rfl,(by refine mcons ?_ (mcons ?_ (mcons ?_ (mcons ?_ (mcons ?_ (mcons ?_ (mcons ?_ (mcons ?_ (mcons ?_ (mcons ?_ mnil)))))))))<;>first|rfl|exact h0|exact h1|exact h2|trivial|(exact rwNil _ _)|(exact vwNil)|(exact ⟨rfl,rfl,rfl⟩))⟩
set_option maxRecDepth 100000 in
theorem dentB_w0 (L:List (List UInt8)) (h0:((stO L L.length)).length≤(1000:Nat)) (h1:(dbB (stO L L.length)).length≤(100000:Nat)) (h2:(dbE (stO L L.length) != (0:Int))=false) (h3:(!decide (dbB (stO L L.length)=L))=true):∃ qs,wayO Id' ([⟨.us (.ext (.shr 1 L.length (tbE L))),false⟩]:Mem Td).length [⟨.us (.ext (.shr 1 L.length (tbE L))),false⟩,⟨.us (.ext (.vw [true,false,false,false] ([]:List Rw))),false⟩] (.tup [.one (.obj 1),.one (.v (.int .i64 4))]) ((runFn (⟨Try.prog,[(58,ctrF Id' C_dblocks hardD),(126,ctrF Id' (wkC (C_eqf (dbB (stO L L.length)) L)) hardD)],[],dkHo,Id'.one,60⟩:Sy Td) [(3,(lpG Id' 46 (hdC (loopsC (bodyOf Try.f61)) 0) 1 [(13,.c (.one (.v (.int .i64 ((0:Nat):Int))))),(4,.c (.one (.obj 1)))] [(0,.c (.one (.obj 0))),(11,.c (.one (.obj 0))),(12,.c (.one (.v (.int .i64 (L.length:Int)))))] [⟨.us (.ext (.shr 1 L.length (tbE L))),false⟩,⟨.us (.ext (.flat (.rw 109 [true,false,false,false] (stO L 0)))),true⟩] (.leaf (.exit 0) [(4,.c (.one (.obj 1)))] [⟨.us (.ext (.shr 1 L.length (tbE L))),false⟩,⟨.us (.ext (.flat (.rw 109 [true,false,false,false] (stO L L.length)))),true⟩]))),(100013,mapG (modAt wkE 1) (⟨Try.prog,[(58,ctrF Id' C_dblocks hardD)],[],dkHo,Id'.one,60⟩:Sy Td) 46 (regO 13 (bodyOf Try.f61)) (drwR 13 (bodyOf Try.f61)))] Try.f61 [.one (.obj 0)] [⟨.us (.ext (.shr 1 L.length (tbE L))),false⟩]).al [false,true])=some qs∧∀ q∈qs,q:=
 ⟨[Value.int IntKind.i64 (↑L.length:Int)=Value.int IntKind.i64 (↑L.length:Int),Th.ext (Dk.shr 1 L.length (tbE L))=Th.ext (Dk.shr 1 L.length (tbE L)),∀ (w:World),Id'.holds (Th.ext (Dk.flat (FL.rw 109 [true,false,false,false] (stO L 0)))) w nilV∧∀ (j:Nat),¬Id'.foot (Th.ext (Dk.flat (FL.rw 109 [true,false,false,false] (stO L 0)))) w nilV j,Value.int IntKind.i64 (Int.ofNat 0)=Value.int IntKind.i64 (Int.ofNat (0:Nat)),(stO L L.length).length≤(1000:Nat),(dbE (stO L L.length) != (0:Int))=false,(1:Nat)=(1:Nat)∧(dbB (stO L L.length)).length=(dbB (stO L L.length)).length∧tbE (dbB (stO L L.length))=tbE (dbB (stO L L.length)),(1:Nat)=(1:Nat)∧L.length=L.length∧tbE L=tbE L,(dbB (stO L L.length)).length≤(100000:Nat),(dbE (stO L L.length) != (0:Int))=false,(!decide (dbB (stO L L.length)=L))=true,Th.ext (Dk.shr 1 L.length (tbE L))=Th.ext (Dk.shr 1 L.length (tbE L)),∀ (w:World),Id'.holds (Th.ext (Dk.vw [true,false,false,false] [])) w nilV∧∀ (j:Nat),¬Id'.foot (Th.ext (Dk.vw [true,false,false,false] [])) w nilV j,Value.int IntKind.i64 (Int.ofNat 4)=Value.int IntKind.i64 (Int.ofNat 4)],by kernel_rfl,(by refine mcons ?_ (mcons ?_ (mcons ?_ (mcons ?_ (mcons ?_ (mcons ?_ (mcons ?_ (mcons ?_ (mcons ?_ (mcons ?_ (mcons ?_ (mcons ?_ (mcons ?_ (mcons ?_ mnil)))))))))))))<;>first|rfl|exact h0|exact h1|exact h2|exact h3|trivial|(exact rwNil _ _)|(exact vwNil)|(exact ⟨rfl,rfl,rfl⟩))⟩
set_option maxRecDepth 100000 in
theorem dentC_w0 (L:List (List UInt8)) (h0:((stO L L.length)).length≤(1000:Nat)) (h1:(dbB (stO L L.length)).length≤(100000:Nat)) (h2:(dbE (stO L L.length) != (0:Int))=false) (h3:(!decide (dbB (stO L L.length)=L))=false):∃ qs,wayO Id' ([⟨.us (.ext (.shr 1 L.length (tbE L))),false⟩]:Mem Td).length [⟨.us (.ext (.shr 1 L.length (tbE L))),false⟩,⟨.us (.ext (.vw [true,false,false,false] (stO L L.length))),false⟩] (.tup [.one (.obj 1),.one (.v (.int .i64 0))]) ((runFn (⟨Try.prog,[(58,ctrF Id' C_dblocks hardD),(126,ctrF Id' (wkC (C_eqf (dbB (stO L L.length)) L)) hardD)],[],dkHo,Id'.one,60⟩:Sy Td) [(3,(lpG Id' 46 (hdC (loopsC (bodyOf Try.f61)) 0) 1 [(13,.c (.one (.v (.int .i64 ((0:Nat):Int))))),(4,.c (.one (.obj 1)))] [(0,.c (.one (.obj 0))),(11,.c (.one (.obj 0))),(12,.c (.one (.v (.int .i64 (L.length:Int)))))] [⟨.us (.ext (.shr 1 L.length (tbE L))),false⟩,⟨.us (.ext (.flat (.rw 109 [true,false,false,false] (stO L 0)))),true⟩] (.leaf (.exit 0) [(4,.c (.one (.obj 1)))] [⟨.us (.ext (.shr 1 L.length (tbE L))),false⟩,⟨.us (.ext (.flat (.rw 109 [true,false,false,false] (stO L L.length)))),true⟩]))),(100013,mapG (modAt wkE 1) (⟨Try.prog,[(58,ctrF Id' C_dblocks hardD)],[],dkHo,Id'.one,60⟩:Sy Td) 46 (regO 13 (bodyOf Try.f61)) (drwR 13 (bodyOf Try.f61)))] Try.f61 [.one (.obj 0)] [⟨.us (.ext (.shr 1 L.length (tbE L))),false⟩]).al [false,false])=some qs∧∀ q∈qs,q:=
 ⟨[Value.int IntKind.i64 (↑L.length:Int)=Value.int IntKind.i64 (↑L.length:Int),Th.ext (Dk.shr 1 L.length (tbE L))=Th.ext (Dk.shr 1 L.length (tbE L)),∀ (w:World),Id'.holds (Th.ext (Dk.flat (FL.rw 109 [true,false,false,false] (stO L 0)))) w nilV∧∀ (j:Nat),¬Id'.foot (Th.ext (Dk.flat (FL.rw 109 [true,false,false,false] (stO L 0)))) w nilV j,Value.int IntKind.i64 (Int.ofNat 0)=Value.int IntKind.i64 (Int.ofNat (0:Nat)),(stO L L.length).length≤(1000:Nat),(dbE (stO L L.length) != (0:Int))=false,(1:Nat)=(1:Nat)∧(dbB (stO L L.length)).length=(dbB (stO L L.length)).length∧tbE (dbB (stO L L.length))=tbE (dbB (stO L L.length)),(1:Nat)=(1:Nat)∧L.length=L.length∧tbE L=tbE L,(dbB (stO L L.length)).length≤(100000:Nat),(dbE (stO L L.length) != (0:Int))=false,(!decide (dbB (stO L L.length)=L))=false,Th.ext (Dk.shr 1 L.length (tbE L))=Th.ext (Dk.shr 1 L.length (tbE L)),Th.ext (Dk.vw [true,false,false,false] (Nat.brecOn.go L.length (stO._f L)).1)=Th.ext (Dk.vw [true,false,false,false] (Nat.brecOn.go L.length (stO._f L)).1),Value.int IntKind.i64 (Int.ofNat 0)=Value.int IntKind.i64 (Int.ofNat 0)],by kernel_rfl,(by refine mcons ?_ (mcons ?_ (mcons ?_ (mcons ?_ (mcons ?_ (mcons ?_ (mcons ?_ (mcons ?_ (mcons ?_ (mcons ?_ (mcons ?_ (mcons ?_ (mcons ?_ (mcons ?_ mnil)))))))))))))<;>first|rfl|exact h0|exact h1|exact h2|exact h3|trivial|(exact rwNil _ _)|(exact vwNil)|(exact ⟨rfl,rfl,rfl⟩))⟩
def deOk (L:List (List UInt8)):Bool:=dbE (stO L L.length)==0&&decide (dbB (stO L L.length)=L)
def deE (L:List (List UInt8)):Int:=bif deOk L then 0 else 4
def deR (L:List (List UInt8)):List Rw:=bif deOk L then (stO L L.length) else []
def C_dents (L:List (List UInt8)):Ctr Td:=fun us sub=>match us,sub with
 |[.one (.obj 0)],[⟨.us (.ext (.shr sz n el)),false⟩]=>some ([sz=1∧n=L.length∧el=tbE L,L.length≤100∧∀ l∈L,l.length≤140737488355328],.tup [.one (.obj 1),.one (.v (.int .i64 (deE L)))],[⟨.us (.ext (.shr sz n el)),false⟩,⟨.us (.ext (.vw [true,false,false,false] (deR L))),false⟩])
 |_,_=>none
theorem blksP_n (R:List Rw) (k:Nat):(blksP R k).length=k:=blksP_len R k
theorem dbB_len (R:List Rw):(dbB R).length≤R.length+1:=by
 unfold dbB
 cases (okP R&&!decide ((R.length:Int)>24)) with
 |false=>exact Nat.zero_le _
 |true=>
  show (blksP R (nbR R)).length≤_
  rw [blksP_n]
  unfold nbR;omega
set_option maxRecDepth 100000 in
theorem C_dents_ok (L:List (List UInt8)):CtrOk Try.prog Id' 61 (C_dents L):=by
 intro us sub ps x sm h hp w e vs hM ha
 unfold C_dents at h
 split at h
 ·rename_i sz n el
  simp only [Option.some.injEq,Prod.mk.injEq] at h
  obtain ⟨rfl,rfl,rfl⟩:=h
  obtain ⟨rfl,rfl,rfl⟩:=hp _ (List.mem_cons_self ..)
  obtain ⟨hL,hw⟩:=hp _ (List.mem_cons_of_mem _ (List.mem_cons_self ..))
  have hs:=stO_len L L.length
  have hb:=dbB_len (stO L L.length)
  cases q1:(dbE (stO L L.length) != (0:Int)) with
  |true=>
   have ho:deOk L=false:=by
    unfold deOk
    rw [bne_iff_ne] at q1
    rw [show (dbE (stO L L.length)==0)=false from by simpa using q1,Bool.false_and]
   unfold deE deR
   rw [ho]
   exact ctr_way (I:=Id') (fun (W0:World) (G:Nat→Prop)=>SyOk.mk2 Try.mixed dkHo_ok (FnsR.cons (R_dblocks) (FnsR.cons ((R_eqf (dbB (stO L L.length)) L)) (FnsR.nil))) EqsOk.nil) rfl Try.func61 (by kernel_rfl) (fun W0 G=>LpsOk.cons (by kernel_rfl) (eou_lp L (by omega) hw _ rfl) (LpsOk.cons (by kernel_rfl) (mapG_sound (id:=13) ((fun (W0:World) (G:Nat→Prop)=>SyOk.mk2 Try.mixed dkHo_ok (FnsR.cons (R_dblocks) (FnsR.nil)) EqsOk.nil) W0 G) rfl (fun w e mem h=>wk_ok (W0:=W0) (G:=G) 1 w e mem h)) (LpsOk.nil _))) (cs:=[true]) (by kernel_rfl) (dentA_w0 L (by omega) (by omega) q1) w e vs hM ha
  |false=>
   have q1':(dbE (stO L L.length)==0)=true:=by simpa using q1
   cases q2:(!decide (dbB (stO L L.length)=L)) with
   |true=>
    have ho:deOk L=false:=by
     unfold deOk
     rw [show decide (dbB (stO L L.length)=L)=false from by simpa using q2,Bool.and_false]
    unfold deE deR
    rw [ho]
    exact ctr_way (I:=Id') (fun (W0:World) (G:Nat→Prop)=>SyOk.mk2 Try.mixed dkHo_ok (FnsR.cons (R_dblocks) (FnsR.cons ((R_eqf (dbB (stO L L.length)) L)) (FnsR.nil))) EqsOk.nil) rfl Try.func61 (by kernel_rfl) (fun W0 G=>LpsOk.cons (by kernel_rfl) (eou_lp L (by omega) hw _ rfl) (LpsOk.cons (by kernel_rfl) (mapG_sound (id:=13) ((fun (W0:World) (G:Nat→Prop)=>SyOk.mk2 Try.mixed dkHo_ok (FnsR.cons (R_dblocks) (FnsR.nil)) EqsOk.nil) W0 G) rfl (fun w e mem h=>wk_ok (W0:=W0) (G:=G) 1 w e mem h)) (LpsOk.nil _))) (cs:=[false,true]) (by kernel_rfl) (dentB_w0 L (by omega) (by omega) q1 q2) w e vs hM ha
   |false=>
    have ho:deOk L=true:=by
     unfold deOk
     rw [q1',show decide (dbB (stO L L.length)=L)=true from by simpa using q2];rfl
    unfold deE deR
    rw [ho]
    exact ctr_way (I:=Id') (fun (W0:World) (G:Nat→Prop)=>SyOk.mk2 Try.mixed dkHo_ok (FnsR.cons (R_dblocks) (FnsR.cons ((R_eqf (dbB (stO L L.length)) L)) (FnsR.nil))) EqsOk.nil) rfl Try.func61 (by kernel_rfl) (fun W0 G=>LpsOk.cons (by kernel_rfl) (eou_lp L (by omega) hw _ rfl) (LpsOk.cons (by kernel_rfl) (mapG_sound (id:=13) ((fun (W0:World) (G:Nat→Prop)=>SyOk.mk2 Try.mixed dkHo_ok (FnsR.cons (R_dblocks) (FnsR.nil)) EqsOk.nil) W0 G) rfl (fun w e mem h=>wk_ok (W0:=W0) (G:=G) 1 w e mem h)) (LpsOk.nil _))) (cs:=[false,false]) (by kernel_rfl) (dentC_w0 L (by omega) (by omega) q1 q2) w e vs hM ha
 ·cases h
end Go.Proofs.Ytdenmoiaiemokaa
set_option linter.unusedVariables false
set_option linter.unusedSimpArgs false
namespace Go.Proofs.Ytdenmoiaiemokaa
open Go.RowKit
section
variable {w w':World} {N:Nat→Prop} {o xb:Nat} {bs:List Bool} {err:Int}
end
end Go.Proofs.Ytdenmoiaiemokaa
set_option linter.unusedVariables false
set_option linter.unusedSimpArgs false
namespace Go.Proofs.Ytdenmoiaiemokaa
open Go.RowKit
section
variable {β:Type} {I:ObI β} {W0:World} {G:Nat→Prop} {w w':World} {E:Env} {mem:Mem β}
end
end Go.Proofs.Ytdenmoiaiemokaa
set_option linter.unusedVariables false
set_option linter.unusedSimpArgs false
namespace Go.Proofs.Ytdenmoiaiemokaa
open Go.RowKit
theorem gL_snoc:∀ (n:Nat) (s:RS),gL (n+1) s=gL n s++[gU (gS n s)]
 |0,s=>rfl
 |n+1,s=>by
  show gU s::gL (n+1) (s.get 8)=(gU s::gL n (s.get 8))++[gU (gS n (s.get 8))]
  rw [gL_snoc n (s.get 8)];rfl
theorem gS_snoc:∀ (n:Nat) (s:RS),gS (n+1) s=(gS n s).get 8
 |0,s=>rfl
 |n+1,s=>gS_snoc n (s.get 8)
theorem gL_len:∀ (n:Nat) (s:RS),(gL n s).length=n
 |0,s=>rfl
 |n+1,s=>by simp [gL,gL_len n (s.get 8)]
end Go.Proofs.Ytdenmoiaiemokaa
set_option linter.unusedVariables false
set_option linter.unusedSimpArgs false
namespace Go.Proofs.Ytdenmoiaiemokaa
open Go.RowKit
def slE (b:List UInt8) (i:Int):RS:=⟨b,0+(IntKind.i64.wrap (172 * i)).toNat,0⟩
def gq (s:RS):Int:=IntKind.i64.wrap (s.num 5:Int)
def inE (s:RS):Bool:=decide (gq s>0)&&decide (gq s≤16)
def entH (s:RS):Rw:=⟨[gA s,gB s,gC s],[⟨(((gL 16 (g4 s)).drop 0).take ((gq s).toNat - 0)).toArray⟩]⟩
def stH (b:List UInt8) (X:List Rw):Nat→List Rw
 |0=>X
 |k+1=>bif inE (slE b (k:Int)) then stH b X k++[entH (slE b (k:Int))] else stH b X k
def stR (L:List (List UInt8)):Nat→List Rw
 |0=>[]
 |k+1=>stH (L.getD k []) (stR L k) 5
end Go.Proofs.Ytdenmoiaiemokaa
set_option linter.unusedVariables false
set_option linter.unusedSimpArgs false
namespace Go.Proofs.Ytdenmoiaiemokaa
open Go.RowKit
end Go.Proofs.Ytdenmoiaiemokaa
set_option linter.unusedVariables false
set_option linter.unusedSimpArgs false
namespace Go.Proofs.Ytdenmoiaiemokaa
open Go.RowKit
def Blind (P:Program) {α:Type} (s:Sem α):Prop:=∀ w r w0,s.run P w=.ok r w0→w0=w∧∀ w',s.run P w'=.ok r w'
section
variable {P:Program} {α β:Type}
theorem blind_pure (x:α):Blind P (pure x:Sem α):=fun w r w0 h=>by
 rw [Sem.run_pure] at h
 cases h
 exact ⟨rfl,fun w'=>Sem.run_pure ..⟩
theorem blind_bind {s:Sem α} {f:α→Sem β} (hs:Blind P s) (hf:∀ a,Blind P (f a)):Blind P (s >>= f):=fun w r w0 h=>by
 rw [Sem.run_bind] at h
 cases hr:s.run P w with
 |ok a w1=>
  rw [hr,Result.andThen_ok] at h
  obtain ⟨rfl,h2⟩:=hs w a w1 hr
  obtain ⟨rfl,h4⟩:=hf a _ r w0 h
  exact ⟨rfl,fun w'=>by rw [Sem.run_bind,h2 w',Result.andThen_ok];exact h4 w'⟩
 |halt x w1=>rw [hr] at h;cases h
theorem blind_never {s:Sem α} (h:∀ w r w0,s.run P w≠.ok r w0):Blind P s:=fun w r w0 h'=>absurd h' (h w r w0)
theorem blind_program {f:Program→Sem α} (h:∀ p,Blind P (f p)):Blind P (program >>= f):=fun w r w0 hr=>h P w r w0 hr
theorem blind_halt (h:Halt):Blind P (.halt h:Sem α):=blind_never fun w r w0 h=>by cases h
theorem blind_stuck (s:String):Blind P (stuck s:Sem α):=blind_halt _
theorem blind_unsupported (u:Unsupported):Blind P (unsupported u:Sem α):=blind_halt _
def Never (P:Program) {α:Type} (s:Sem α):Prop:=∀ w r w0,s.run P w≠.ok r w0
theorem never_bind {s:Sem α} {f:α→Sem β} (hf:∀ a,Never P (f a)):Never P (s >>= f):=fun w r w0 h=>by
 rw [Sem.run_bind] at h
 cases hr:s.run P w with
 |ok a w1=>rw [hr,Result.andThen_ok] at h;exact hf a _ _ _ h
 |halt x w1=>rw [hr] at h;cases h
theorem blind_asIntOf (v:Value):Blind P (asIntOf v):=by
 unfold asIntOf
 split
 ·exact blind_pure _
 ·exact blind_unsupported _
 ·exact blind_stuck _
theorem blind_underlying (t:TypeId):Blind P (underlying t):=by
 unfold underlying
 refine blind_program fun p=>?_
 split
 ·exact blind_pure _
 ·exact blind_stuck _
theorem blind_sizeOf (t:TypeId):Blind P (sizeOf t):=by
 unfold sizeOf typeInfo
 refine blind_bind (blind_program fun p=>?_) fun i=>blind_pure _
 split
 ·exact blind_pure _
 ·exact blind_stuck _
theorem blind_sureAddr (v:Value):Blind P (Instr.sureAddr v):=by
 unfold Instr.sureAddr
 split
 ·exact blind_pure _
 ·exact blind_stuck _
theorem never_goPanic (v:Value):Never P (goPanic v:Sem α):=fun w r w0 h=>by cases h
theorem never_bounds (k:IntKind) (x y:Int) (c:BoundsCode):Never P (boundsPanic k x y c:Sem α):=by
 have hj:∀ s,Never P (runtimePanic (.bounds (IntKind.i64.wrap x) y s c):Sem α):=fun s=>by
  unfold runtimePanic
  exact never_bind fun p=>never_goPanic _
 unfold boundsPanic
 extract_lets jp
 split
 ·exact never_bind fun s=>hj s
 ·exact never_bind fun s=>hj s
theorem blind_bounds (k:IntKind) (x y:Int) (c:BoundsCode):Blind P (boundsPanic k x y c:Sem α):=blind_never (never_bounds k x y c)
theorem blind_indexAt (t:TypeId) (x i:Value):Blind P (Instr.indexAt t x i):=by
 unfold Instr.indexAt
 refine blind_bind (blind_asIntOf _) fun ki=>?_
 refine blind_bind (blind_underlying _) fun d=>?_
 repeat' first|exact blind_pure _|exact blind_stuck _|exact blind_unsupported _|exact blind_sizeOf _|exact blind_underlying _|exact blind_sureAddr _|exact blind_bounds _ _ _ _|refine blind_bind ?_ fun _=>?_|split|dsimp only|(extract_lets;split)
end
end Go.Proofs.Ytdenmoiaiemokaa
set_option linter.unusedVariables false
set_option linter.unusedSimpArgs false
namespace Go.Proofs.Ytdenmoiaiemokaa
open Go.RowKit
section
variable {W0:World} {G:Nat→Prop} {w:World} {e:Env} {mem:Mem Td}
theorem tab_load_uni {tb:TB} {i:Nat} {mu:Bool} {idx:Int} (hM:MemOk W0 G Id' w e mem) (hm:mem[i]? =some ⟨.us (.ext (.tab tb)),mu⟩) {o:Oper} {ρ:Operand→Value} {x:Operand} (ho:o.op=.load 29 x) (ha:AllC e [.one (.elt i (tb.k+1) idx tb.k)] [ρ x]):
  ∃ v,(∀ w',Ext w w'→(execOp ρ o).run Try.prog w'=.ok (.value v) w')∧MemOk W0 G Id' w (e++[v]) (mem++[⟨.us (.byt (tb.byt idx)),false⟩]):=by
 have ha:=is_one ha.1
 obtain ⟨b,oo,n,cap,hE,hi,hx⟩:=ha
 obtain ⟨h0,h1,vals,hl,⟨B,hB,hown⟩,hr⟩:=hM.holds i _ _ hE hm
 have hR:=Rs.of_owns hown
 obtain ⟨ao,cap',he,_,_,_,_,h5⟩:=hR.open
 cases he
 obtain ⟨i1,i2⟩:=hi
 have hri:tb.R[idx.toNat]? =some (elB tb.R idx):=by unfold elB;rw [List.getD_eq_getElem?_getD,List.getElem?_eq_getElem i2];rfl
 have hvi:vals[idx.toNat]? =some (vals.getD idx.toNat undef):=by rw [List.getD_eq_getElem?_getD,List.getElem?_eq_getElem (by omega)];rfl
 rw [← TB.byt_eq]
 have hcell:=h5 _ rfl _ _ (tabCells_get hl h0 idx.toNat _ hvi)
 rw [Addr.add_mid] at hcell
 obtain ⟨hbs,hne⟩:=hr _ _ _ hvi hri
 refine ⟨vals.getD idx.toNat undef,fun w' hw=>?_,hM.share _ (.us (.byt (elB tb.R idx).2)) hbs fun kk hk=>?_⟩
 ·have hcell':=hw.cell hcell
  obtain ⟨u,k1,k2⟩:=loadPart (P:=Try.prog) (e:=[]) (w:=w') (ty:=29) (cells:=[PV.v (vals.getD idx.toNat undef)]) (off:=0) (y:=.one (.v (vals.getD idx.toNat undef))) (by kernel_rfl) (b:=b) (o:=oo+(idx.toNat * (tb.k+1)+tb.k)) (fun j p hj=>by
   match j,hj with
   |0,hj=>simp at hj;subst hj;exact ⟨_,hcell',rfl⟩
   |j+1,hj=>simp at hj)
  have:u=vals.getD idx.toNat undef:=k2
  subst this
  exact run_load ho hx k1
 ·obtain ⟨hk1,hk2⟩:=hk
  refine ⟨i,_,_,hE,hm,.inr ⟨idx.toNat,_,_,hri,hk1,tab_at hl h0 hown hvi,hk2⟩,fun _ hk=>hne kk hk1 hk2 hk⟩
theorem shr_load_uni {sz n i off:Nat} {mu:Bool} {idx:Int} {el:Nat→List CD} {l:List UInt8} (hM:MemOk W0 G Id' w e mem) (hm:mem[i]? =some ⟨.us (.ext (.shr sz n el)),mu⟩) (hoff:off<sz) (hel:(el idx.toNat)[off]? =some (.bs l)) {o:Oper} {ρ:Operand→Value} {x:Operand} (ho:o.op=.load 29 x) (ha:AllC e [.one (.elt i sz idx off)] [ρ x]):
  ∃ v,(∀ w',Ext w w'→(execOp ρ o).run Try.prog w'=.ok (.value v) w')∧MemOk W0 G Id' w (e++[v]) (mem++[⟨.us (.byt l),false⟩]):=by
 have ha:=is_one ha.1
 obtain ⟨b,oo,n',cap,hE,hi,hx⟩:=ha
 obtain ⟨h0,vals,hR,hc⟩:=hM.holds i _ _ hE hm
 have hR':=hR
 obtain ⟨hlen,ao,cap',he,_,_,_,h5⟩:=hR'
 cases he
 obtain ⟨i1,i2⟩:=hi
 have hlt:=slot_lt i2 hoff
 have hvi:vals[idx.toNat * sz+off]? =some (vals.getD (idx.toNat * sz+off) undef):=by rw [List.getD_eq_getElem?_getD,List.getElem?_eq_getElem (by omega)];rfl
 have hcell:=h5 _ rfl _ _ hvi
 rw [Addr.add_mid] at hcell
 have hbs:Bs w (vals.getD (idx.toNat * sz+off) undef) l:=hc idx.toNat off _ _ i2 hoff hel hvi
 refine ⟨vals.getD (idx.toNat * sz+off) undef,fun w' hw=>?_,hM.share _ (.us (.byt l)) hbs fun kk hk=>?_⟩
 ·have hcell':=hw.cell hcell
  obtain ⟨u,k1,k2⟩:=loadPart (P:=Try.prog) (e:=[]) (w:=w') (ty:=29) (cells:=[PV.v (vals.getD (idx.toNat * sz+off) undef)]) (off:=0) (y:=.one (.v (vals.getD (idx.toNat * sz+off) undef))) (by kernel_rfl) (b:=b) (o:=oo+(idx.toNat * sz+off)) (fun j p hj=>by
   match j,hj with
   |0,hj=>simp at hj;subst hj;exact ⟨_,hcell',rfl⟩
   |j+1,hj=>simp at hj)
  have:u=vals.getD (idx.toNat * sz+off) undef:=k2
  subst this
  exact run_load ho hx k1
 ·obtain ⟨hk1,hk2⟩:=hk
  exact ⟨i,_,_,hE,hm,.inr ⟨idx.toNat,off,_,_,i2,hoff,hel,hk1,cd_at hR hvi,hk2⟩,fun _ hk=>hk.elim⟩
end
end Go.Proofs.Ytdenmoiaiemokaa
