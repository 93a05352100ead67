/- Y23 Y24 W17 W18 W19 W20 W21 W22 W23 W24 W25 W26 W27 W28 W29 W30. -/
import Derived.Test.YtdenmoiaiemokaaY22p
import Derived.Test.YtdenmoiaiemokaaH13p
import Derived.Test.YtdenmoiaiemokaaY15p
set_option linter.unusedVariables false
set_option linter.unusedSimpArgs false
namespace Go.Proofs.Ytdenmoiaiemokaa
open Go.RowKit
set_option maxRecDepth 100000 in
theorem pnew_w0  :∃ qs,wayO Id' ([]:Mem Td).length [⟨.bx [.obj 1],true⟩,⟨.us (.ext (.flat (.rw 72 [false,false,false] []))),true⟩] (.c (.one (.ptr 0 0))) ((runFn (⟨Try.prog,[],[],dkHo,Id'.one,60⟩:Sy Td) [] Try.f33 [] []).al [])=some qs∧∀ q∈qs,q:=
 ⟨[∀ (w:World),Id'.holds (Th.ext (Dk.flat (FL.rw 72 [false,false,false] []))) w nilV∧∀ (j:Nat),¬Id'.foot (Th.ext (Dk.flat (FL.rw 72 [false,false,false] []))) w nilV j],by kernel_rfl,(by refine mcons ?_ mnil<;>first|rfl|trivial|(exact nil_rw3 rfl))⟩
def C_pnew:Ctr Td:=fun us sub=>match us,sub with
 |[],[]=>some ([],.c (.one (.ptr 0 0)),[⟨.bx [.obj 1],true⟩,⟨.us (.ext (.flat (.rw 72 [false,false,false] []))),true⟩])
 |_,_=>none
set_option maxRecDepth 100000 in
theorem C_pnew_ok:CtrOk Try.prog Id' 33 C_pnew:=by
 intro us sub ps x sm h hp w e vs hM ha
 unfold C_pnew at h
 split at h
 ·skip
  simp only [Option.some.injEq,Prod.mk.injEq] at h
  obtain ⟨rfl,rfl,rfl⟩:=h
  exact ctr_way (I:=Id') (fun (W0:World) (G:Nat→Prop)=>SyOk.mk2 Try.mixed dkHo_ok (FnsR.nil) EqsOk.nil) rfl Try.func33 (by kernel_rfl) (fun W0 G=>LpsOk.nil _) (cs:=[]) (by kernel_rfl) (pnew_w0  ) w e vs hM ha
 ·cases h
theorem R_pnew:RowOk Try.prog Id' hardD 33 (ctrF Id' C_pnew hardD):=ctrF_ok Try.call33 C_pnew_ok
end Go.Proofs.Ytdenmoiaiemokaa
set_option linter.unusedVariables false
set_option linter.unusedSimpArgs false
namespace Go.Proofs.Ytdenmoiaiemokaa
open Go.RowKit
theorem lv22_len:(pnE [] (grT [] 2 1 1 1) 2 1 2 2).1.length≤100000:=by decide +kernel
set_option maxRecDepth 100000 in
theorem lv22_w0  :∃ qs,wayO Id' ([]:Mem Td).length [] (svV (.bool true)) ((runFn (⟨Try.prog,[(33,ctrF Id' C_pnew hardD),(34,ctrF Id' C_tnew hardD),(36,ctrF Id' C_tgr hardD),(40,ctrF Id' C_pne hardD),(42,ctrV C_phs hardD),(38,ctrF Id' C_pal hardD)],[E_of Try.prog 57,E_of Try.prog 72],dkHo,Id'.one,60⟩:Sy Td) [] Try.f44 [] []).al [true,true])=some qs∧∀ q∈qs,q:=
 ⟨[true=true,true=true,(pnE [] (grT [] (2:Int) (1:Int) (1:Int) (1:Int)) (2:Int) (1:Int) (2:Int) (2:Int)).fst.length≤(100000:Nat),true=true,true=true→(pnE [] (grT [] (2:Int) (1:Int) (1:Int) (1:Int)) (2:Int) (1:Int) (2:Int) (2:Int)).fst.length≤(100000:Nat),([]:List Rw).length≤(9000:Nat),true=true,Value.bool true=Value.bool true],by kernel_rfl,(by refine mcons ?_ (mcons ?_ (mcons ?_ (mcons ?_ (mcons ?_ (mcons ?_ (mcons ?_ (mcons ?_ mnil)))))))<;>first|rfl|trivial|(exact lv22_len)|(exact fun _=>lv22_len)|decide|(decide +kernel))⟩
def C_lv22:Ctr Td:=fun us sub=>match us,sub with
 |[],[]=>some ([],svV (.bool true),[])
 |_,_=>none
set_option maxRecDepth 100000 in
theorem C_lv22_ok:CtrOk Try.prog Id' 44 C_lv22:=by
 intro us sub ps x sm h hp w e vs hM ha
 unfold C_lv22 at h
 split at h
 ·skip
  simp only [Option.some.injEq,Prod.mk.injEq] at h
  obtain ⟨rfl,rfl,rfl⟩:=h
  exact ctr_way (I:=Id') (fun (W0:World) (G:Nat→Prop)=>SyOk.mk2 Try.mixed dkHo_ok (FnsR.cons (R_pnew) (FnsR.cons (R_tnew) (FnsR.cons (R_tgr) (FnsR.cons (R_pne) (FnsR.cons (R_phs) (FnsR.cons (R_pal) (FnsR.nil))))))) (E_of_ok (by kernel_rfl) (E_of_ok (by kernel_rfl) (EqsOk.nil)))) rfl Try.func44 (by kernel_rfl) (fun W0 G=>LpsOk.nil _) (cs:=[true,true]) (by kernel_rfl) (lv22_w0  ) w e vs hM ha
 ·cases h
theorem R_lv22:RowOk Try.prog Id' hardD 44 (ctrF Id' C_lv22 hardD):=ctrF_ok Try.call44 C_lv22_ok
end Go.Proofs.Ytdenmoiaiemokaa
set_option linter.unusedVariables false
set_option linter.unusedSimpArgs false
namespace Go.Proofs.Ytdenmoiaiemokaa
open Go.RowKit
end Go.Proofs.Ytdenmoiaiemokaa
set_option linter.unusedVariables false
set_option linter.unusedSimpArgs false
namespace Go.Proofs.Ytdenmoiaiemokaa
open Go.RowKit
end Go.Proofs.Ytdenmoiaiemokaa
set_option linter.unusedVariables false
set_option linter.unusedSimpArgs false
namespace Go.Proofs.Ytdenmoiaiemokaa
open Go.RowKit
end Go.Proofs.Ytdenmoiaiemokaa
set_option linter.unusedVariables false
namespace Go.Proofs.Ytdenmoiaiemokaa
open Go.RowKit
end Go.Proofs.Ytdenmoiaiemokaa
set_option linter.unusedVariables false
set_option linter.unusedSimpArgs false
namespace Go.Proofs.Ytdenmoiaiemokaa
open Go.RowKit
end Go.Proofs.Ytdenmoiaiemokaa
set_option linter.unusedVariables false
set_option linter.unusedSimpArgs false
namespace Go.Proofs.Ytdenmoiaiemokaa
open Go.RowKit
end Go.Proofs.Ytdenmoiaiemokaa
set_option linter.unusedVariables false
set_option linter.unusedSimpArgs false
namespace Go.Proofs.Ytdenmoiaiemokaa
open Go.RowKit
end Go.Proofs.Ytdenmoiaiemokaa
set_option linter.unusedVariables false
set_option linter.unusedSimpArgs false
namespace Go.Proofs.Ytdenmoiaiemokaa
open Go.RowKit
end Go.Proofs.Ytdenmoiaiemokaa
set_option linter.unusedVariables false
set_option linter.unusedSimpArgs false
namespace Go.Proofs.Ytdenmoiaiemokaa
open Go.RowKit
end Go.Proofs.Ytdenmoiaiemokaa
set_option linter.unusedVariables false
set_option linter.unusedSimpArgs false
namespace Go.Proofs.Ytdenmoiaiemokaa
open Go.RowKit
end Go.Proofs.Ytdenmoiaiemokaa
set_option linter.unusedVariables false
set_option linter.unusedSimpArgs false
namespace Go.Proofs.Ytdenmoiaiemokaa
open Go.RowKit
end Go.Proofs.Ytdenmoiaiemokaa
set_option linter.unusedVariables false
set_option linter.unusedSimpArgs false
namespace Go.Proofs.Ytdenmoiaiemokaa
open Go.RowKit
end Go.Proofs.Ytdenmoiaiemokaa
set_option linter.unusedVariables false
namespace Go.Proofs.Ytdenmoiaiemokaa
open Go.RowKit
end Go.Proofs.Ytdenmoiaiemokaa
set_option linter.unusedVariables false
namespace Go.Proofs.Ytdenmoiaiemokaa
open Go.RowKit
end Go.Proofs.Ytdenmoiaiemokaa
