/- Y17 Y18 Y19. -/
import Derived.Test.YtdenmoiaiemokaaY16p
import Derived.Test.YtdenmoiaiemokaaH13p
import Derived.Test.YtdenmoiaiemokaaY15p
set_option linter.unusedVariables false
set_option linter.unusedSimpArgs false
namespace Go.Proofs.Ytdenmoiaiemokaa
open Go.RowKit
theorem sct_ge (Y:List Rw) (a b c:Int):decide (atE Y a b c≥0)=hsE Y a b c:=by
 unfold hsE atE
 rcases fst_cases Y.length (atP Y a b c) with ⟨hv,_⟩|⟨h1,_,_,_⟩
 ·rw [hv];rfl
 ·rw [beq_eq_false_iff_ne.2 (by omega:fstI Y.length (atP Y a b c)≠-1),decide_eq_true (by omega:fstI Y.length (atP Y a b c)≥0)];rfl
set_option maxRecDepth 100000 in
theorem sct_w0 (Y:List Rw) (a b c:Int) (h0:Y.length≤100000):∃ qs,wayV ((runFn (⟨Try.prog,[(152,ctrV C_six hardD)],[E_of Try.prog 57,E_of Try.prog 72],dkHo,Id'.one,60⟩:Sy Td) [] Try.f106 [.one (.obj 0),.agg [.v (.int .i64 a),.v (.int .i64 b),.v (.int .i64 c)]] (roM [⟨.us (.ext (.flat (.rw 72 [false,false,false] Y))),true⟩])).al []) (fun u=>u=.bool (hsE Y a b c))=some qs∧∀ q∈qs,q:=
 ⟨[Value.bool (decide (atE Y a b c≥(0:Int)))=Value.bool (hsE Y a b c),Y.length≤(100000:Nat)],by kernel_rfl,(by refine mcons ?_ (mcons ?_ mnil)<;>first|rfl|exact h0|trivial|(exact h0)|(exact congrArg Value.bool (sct_ge Y a b c)))⟩
def C_sct:CtrV Td:=fun us sub=>match us,sub with
 |[.one (.obj 0),.agg [.v (.int .i64 a),.v (.int .i64 b),.v (.int .i64 c)]],[⟨.us (.ext (.flat (.rw 72 [false,false,false] Y))),false⟩]=>some ([Y.length≤100000],.bool (hsE Y a b c))
 |_,_=>none
set_option maxRecDepth 100000 in
theorem C_sct_ok:CtrVOk Try.prog Id' 106 C_sct:=by
 intro us sub ps x h hp w e vs hM ha
 unfold C_sct at h
 split at h
 ·rename_i a b c Y
  simp only [Option.some.injEq,Prod.mk.injEq] at h
  obtain ⟨rfl,rfl⟩:=h
  have hL:Y.length≤100000:=hp _ (List.mem_cons_self ..)
  exact ctrv_way (I:=Id') (fun (W0:World) (G:Nat→Prop)=>SyOk.mk2 Try.mixed dkHo_ok (FnsR.cons (R_six) (FnsR.nil)) (E_of_ok (by kernel_rfl) (E_of_ok (by kernel_rfl) (EqsOk.nil)))) rfl Try.func106 (by kernel_rfl) (fun W0 G=>LpsOk.nil _) (cs:=[]) (by kernel_rfl) (sct_w0 Y a b c hL) w e vs hM ha
 ·cases h
theorem R_sct:RowOk Try.prog Id' hardD 106 (ctrV C_sct hardD):=ctrV_ok Try.call106 C_sct_ok
end Go.Proofs.Ytdenmoiaiemokaa
set_option linter.unusedVariables false
set_option linter.unusedSimpArgs false
namespace Go.Proofs.Ytdenmoiaiemokaa
open Go.RowKit
set_option maxRecDepth 100000 in
theorem phs_w0 (Y:List Rw) (a b c:Int) (h0:Y.length≤100000):∃ qs,wayV ((runFn (⟨Try.prog,[(106,ctrV C_sct hardD)],[E_of Try.prog 57,E_of Try.prog 72],dkHo,Id'.one,60⟩:Sy Td) [] Try.f42 [.one (.ptr 0 0),.agg [.v (.int .i64 a),.v (.int .i64 b)],.one (.v (.int .i64 c))] (roM [⟨.bx [.obj 1],true⟩,⟨.us (.ext (.flat (.rw 72 [false,false,false] Y))),true⟩])).al []) (fun u=>u=.bool (hsE Y a b c))=some qs∧∀ q∈qs,q:=
 ⟨[Value.bool (hsE Y a b c)=Value.bool (hsE Y a b c),Y.length≤(100000:Nat)],by kernel_rfl,(by refine mcons ?_ (mcons ?_ mnil)<;>first|rfl|exact h0|trivial|(exact h0))⟩
def C_phs:CtrV Td:=fun us sub=>match us,sub with
 |[.one (.ptr 0 0),.agg [.v (.int .i64 a),.v (.int .i64 b)],.one (.v (.int .i64 c))],[⟨.bx [.obj 1],false⟩,⟨.us (.ext (.flat (.rw 72 [false,false,false] Y))),false⟩]=>some ([Y.length≤100000],.bool (hsE Y a b c))
 |_,_=>none
set_option maxRecDepth 100000 in
theorem C_phs_ok:CtrVOk Try.prog Id' 42 C_phs:=by
 intro us sub ps x h hp w e vs hM ha
 unfold C_phs at h
 split at h
 ·rename_i a b c Y
  simp only [Option.some.injEq,Prod.mk.injEq] at h
  obtain ⟨rfl,rfl⟩:=h
  have hL:Y.length≤100000:=hp _ (List.mem_cons_self ..)
  exact ctrv_way (I:=Id') (fun (W0:World) (G:Nat→Prop)=>SyOk.mk2 Try.mixed dkHo_ok (FnsR.cons (R_sct) (FnsR.nil)) (E_of_ok (by kernel_rfl) (E_of_ok (by kernel_rfl) (EqsOk.nil)))) rfl Try.func42 (by kernel_rfl) (fun W0 G=>LpsOk.nil _) (cs:=[]) (by kernel_rfl) (phs_w0 Y a b c hL) w e vs hM ha
 ·cases h
theorem R_phs:RowOk Try.prog Id' hardD 42 (ctrV C_phs hardD):=ctrV_ok Try.call42 C_phs_ok
end Go.Proofs.Ytdenmoiaiemokaa
set_option linter.unusedVariables false
set_option linter.unusedSimpArgs false
namespace Go.Proofs.Ytdenmoiaiemokaa
open Go.RowKit
set_option maxRecDepth 100000 in
theorem pwt_w0 (Y:List Rw) (a b c:Int) (h0:(decide (c<0)||decide (c≥8))=true) (h1:(decide (c<0)||decide (c>7))=true):∃ qs,wayO Id' ([⟨.bx [.obj 1],true⟩,⟨.us (.ext (.flat (.rw 72 [false,false,false] Y))),true⟩]:Mem Td).length [⟨.bx [.obj 2],true⟩,⟨.dead,true⟩,⟨.us (.ext (.flat (.rw 72 [false,false,false] (wtT Y a b c)))),true⟩] (.c (.one (.v (.int .i64 (wtE Y a b c))))) ((runFn (⟨Try.prog,[(42,ctrV C_phs hardD)],[E_of Try.prog 57,E_of Try.prog 72],dkHo,Id'.one,60⟩:Sy Td) [] Try.f35 [.one (.ptr 0 0),.agg [.v (.int .i64 a),.v (.int .i64 b)],.one (.v (.int .i64 c))] [⟨.bx [.obj 1],true⟩,⟨.us (.ext (.flat (.rw 72 [false,false,false] Y))),true⟩]).al [true])=some qs∧∀ q∈qs,q:=
 ⟨[(decide (c<(0:Int))||decide (c≥(8:Int)))=true,(Th.ext (Dk.flat (FL.rw 72 [false,false,false] Y)):Td)=Th.ext (Dk.flat (FL.rw 72 [false,false,false] (wtT Y a b c))),Value.int IntKind.i64 (Int.ofNat 2)=Value.int IntKind.i64 (wtE Y a b c)],by kernel_rfl,(by refine mcons ?_ (mcons ?_ (mcons ?_ mnil))<;>first|rfl|exact h0|exact h1|trivial|(exact congrArg (fun x=>(Th.ext (Dk.flat (FL.rw 72 [false,false,false] x)):Td)) (show _=wtT Y a b c by rw [wtT,h1,h2];rfl))|(exact congrArg (fun x=>(Th.ext (Dk.flat (FL.rw 72 [false,false,false] x)):Td)) (show _=wtT Y a b c by rw [wtT,h1];rfl))|(exact congrArg (Value.int .i64) (show _=wtE Y a b c by rw [wtE,h1,h2];rfl))|(exact congrArg (Value.int .i64) (show _=wtE Y a b c by rw [wtE,h1];rfl))|(exact Nat.le_trans h3 (by decide))|(show Y.length+1≤100000;omega))⟩
set_option maxRecDepth 100000 in
theorem pwt_w1 (Y:List Rw) (a b c:Int) (h0:(decide (c<0)||decide (c≥8))=false) (h1:(decide (c<0)||decide (c>7))=false) (h2:hsE Y a b c=true) (h3:Y.length≤10000):∃ qs,wayO Id' ([⟨.bx [.obj 1],true⟩,⟨.us (.ext (.flat (.rw 72 [false,false,false] Y))),true⟩]:Mem Td).length [⟨.bx [.obj 2],true⟩,⟨.dead,true⟩,⟨.us (.ext (.flat (.rw 72 [false,false,false] (wtT Y a b c)))),true⟩] (.c (.one (.v (.int .i64 (wtE Y a b c))))) ((runFn (⟨Try.prog,[(42,ctrV C_phs hardD)],[E_of Try.prog 57,E_of Try.prog 72],dkHo,Id'.one,60⟩:Sy Td) [] Try.f35 [.one (.ptr 0 0),.agg [.v (.int .i64 a),.v (.int .i64 b)],.one (.v (.int .i64 c))] [⟨.bx [.obj 1],true⟩,⟨.us (.ext (.flat (.rw 72 [false,false,false] Y))),true⟩]).al [false,true])=some qs∧∀ q∈qs,q:=
 ⟨[(decide (c<(0:Int))||decide (c≥(8:Int)))=false,Y.length≤(100000:Nat),hsE Y a b c=true,(Th.ext (Dk.flat (FL.rw 72 [false,false,false] Y)):Td)=Th.ext (Dk.flat (FL.rw 72 [false,false,false] (wtT Y a b c))),Value.int IntKind.i64 (Int.ofNat 10)=Value.int IntKind.i64 (wtE Y a b c)],by kernel_rfl,(by refine mcons ?_ (mcons ?_ (mcons ?_ (mcons ?_ (mcons ?_ mnil))))<;>first|rfl|exact h0|exact h1|exact h2|exact h3|trivial|(exact congrArg (fun x=>(Th.ext (Dk.flat (FL.rw 72 [false,false,false] x)):Td)) (show _=wtT Y a b c by rw [wtT,h1,h2];rfl))|(exact congrArg (fun x=>(Th.ext (Dk.flat (FL.rw 72 [false,false,false] x)):Td)) (show _=wtT Y a b c by rw [wtT,h1];rfl))|(exact congrArg (Value.int .i64) (show _=wtE Y a b c by rw [wtE,h1,h2];rfl))|(exact congrArg (Value.int .i64) (show _=wtE Y a b c by rw [wtE,h1];rfl))|(exact Nat.le_trans h3 (by decide))|(show Y.length+1≤100000;omega))⟩
set_option maxRecDepth 100000 in
theorem pwt_w2 (Y:List Rw) (a b c:Int) (h0:(decide (c<0)||decide (c≥8))=false) (h1:(decide (c<0)||decide (c>7))=false) (h2:hsE Y a b c=false) (h3:Y.length≤10000):∃ qs,wayO Id' ([⟨.bx [.obj 1],true⟩,⟨.us (.ext (.flat (.rw 72 [false,false,false] Y))),true⟩]:Mem Td).length [⟨.bx [.obj 2],true⟩,⟨.dead,true⟩,⟨.us (.ext (.flat (.rw 72 [false,false,false] (wtT Y a b c)))),true⟩] (.c (.one (.v (.int .i64 (wtE Y a b c))))) ((runFn (⟨Try.prog,[(42,ctrV C_phs hardD)],[E_of Try.prog 57,E_of Try.prog 72],dkHo,Id'.one,60⟩:Sy Td) [] Try.f35 [.one (.ptr 0 0),.agg [.v (.int .i64 a),.v (.int .i64 b)],.one (.v (.int .i64 c))] [⟨.bx [.obj 1],true⟩,⟨.us (.ext (.flat (.rw 72 [false,false,false] Y))),true⟩]).al [false,false])=some qs∧∀ q∈qs,q:=
 ⟨[(decide (c<(0:Int))||decide (c≥(8:Int)))=false,Y.length≤(100000:Nat),hsE Y a b c=false,Y.length+[Rw.mk [a,b,c] []].length≤(100000:Nat),(Th.ext (Dk.flat (FL.rw 72 [false,false,false] (Y++[⟨[a,b,c],[]⟩]))):Td)=Th.ext (Dk.flat (FL.rw 72 [false,false,false] (wtT Y a b c))),Value.int IntKind.i64 (Int.ofNat 0)=Value.int IntKind.i64 (wtE Y a b c)],by kernel_rfl,(by refine mcons ?_ (mcons ?_ (mcons ?_ (mcons ?_ (mcons ?_ (mcons ?_ mnil)))))<;>first|rfl|exact h0|exact h1|exact h2|exact h3|trivial|(exact congrArg (fun x=>(Th.ext (Dk.flat (FL.rw 72 [false,false,false] x)):Td)) (show _=wtT Y a b c by rw [wtT,h1,h2];rfl))|(exact congrArg (fun x=>(Th.ext (Dk.flat (FL.rw 72 [false,false,false] x)):Td)) (show _=wtT Y a b c by rw [wtT,h1];rfl))|(exact congrArg (Value.int .i64) (show _=wtE Y a b c by rw [wtE,h1,h2];rfl))|(exact congrArg (Value.int .i64) (show _=wtE Y a b c by rw [wtE,h1];rfl))|(exact Nat.le_trans h3 (by decide))|(show Y.length+1≤100000;omega))⟩
theorem bad_eq (c:Int):(decide (c<0)||decide (c>7))=(decide (c<0)||decide (c≥8)):=by
 rw [show decide (c>7)=decide (c≥8) from decide_eq_decide.2 ⟨by omega,by omega⟩]
def C_pwt:Ctr Td:=fun us sub=>match us,sub with
 |[.one (.ptr 0 0),.agg [.v (.int .i64 a),.v (.int .i64 b)],.one (.v (.int .i64 c))],[⟨.bx [.obj 1],true⟩,⟨.us (.ext (.flat (.rw 72 [false,false,false] Y))),true⟩]=>some ([Y.length≤10000],.c (.one (.v (.int .i64 (wtE Y a b c)))),[⟨.bx [.obj 2],true⟩,⟨.dead,true⟩,⟨.us (.ext (.flat (.rw 72 [false,false,false] (wtT Y a b c)))),true⟩])
 |_,_=>none
set_option maxRecDepth 100000 in
theorem C_pwt_ok:CtrOk Try.prog Id' 35 C_pwt:=by
 intro us sub ps x sm h hp w e vs hM ha
 unfold C_pwt at h
 split at h
 ·rename_i a b c Y
  simp only [Option.some.injEq,Prod.mk.injEq] at h
  obtain ⟨rfl,rfl,rfl⟩:=h
  have hL:Y.length≤10000:=hp _ (List.mem_cons_self ..)
  cases h0:(decide (c<0)||decide (c≥8)) with
  |true=>exact ctr_way (I:=Id') (fun (W0:World) (G:Nat→Prop)=>SyOk.mk2 Try.mixed dkHo_ok (FnsR.cons (R_phs) (FnsR.nil)) (E_of_ok (by kernel_rfl) (E_of_ok (by kernel_rfl) (EqsOk.nil)))) rfl Try.func35 (by kernel_rfl) (fun W0 G=>LpsOk.nil _) (cs:=[true]) (by kernel_rfl) (pwt_w0 Y a b c h0 ((bad_eq c).trans h0)) w e vs hM ha
  |false=>
   cases h1:hsE Y a b c with
   |true=>exact ctr_way (I:=Id') (fun (W0:World) (G:Nat→Prop)=>SyOk.mk2 Try.mixed dkHo_ok (FnsR.cons (R_phs) (FnsR.nil)) (E_of_ok (by kernel_rfl) (E_of_ok (by kernel_rfl) (EqsOk.nil)))) rfl Try.func35 (by kernel_rfl) (fun W0 G=>LpsOk.nil _) (cs:=[false,true]) (by kernel_rfl) (pwt_w1 Y a b c h0 ((bad_eq c).trans h0) h1 hL) w e vs hM ha
   |false=>exact ctr_way (I:=Id') (fun (W0:World) (G:Nat→Prop)=>SyOk.mk2 Try.mixed dkHo_ok (FnsR.cons (R_phs) (FnsR.nil)) (E_of_ok (by kernel_rfl) (E_of_ok (by kernel_rfl) (EqsOk.nil)))) rfl Try.func35 (by kernel_rfl) (fun W0 G=>LpsOk.nil _) (cs:=[false,false]) (by kernel_rfl) (pwt_w2 Y a b c h0 ((bad_eq c).trans h0) h1 hL) w e vs hM ha
 ·cases h
theorem R_pwt:RowOk Try.prog Id' hardD 35 (ctrF Id' C_pwt hardD):=ctrF_ok Try.call35 C_pwt_ok
end Go.Proofs.Ytdenmoiaiemokaa
