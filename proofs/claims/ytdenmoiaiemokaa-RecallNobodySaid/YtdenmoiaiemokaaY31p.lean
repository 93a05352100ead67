/- Y27 Y28 Y29 Y30 Y31. -/
import Derived.Test.YtdenmoiaiemokaaY26p
import Derived.Test.YtdenmoiaiemokaaH13p
import Derived.Test.YtdenmoiaiemokaaW56p
import Derived.Test.YtdenmoiaiemokaaW30p
set_option linter.unusedVariables false
set_option linter.unusedSimpArgs false
namespace Go.Proofs.Ytdenmoiaiemokaa
open Go.RowKit
theorem ofE_nil {c:Int} (h:0≤c∧c<8):ofE 0 c=0:=by
 obtain ⟨h1,h2⟩:=h
 have hc:c=0∨c=1∨c=2∨c=3∨c=4∨c=5∨c=6∨c=7:=by omega
 rcases hc with rfl|rfl|rfl|rfl|rfl|rfl|rfl|rfl<;>decide +kernel
set_option maxRecDepth 100000 in
theorem nmd_w0 (a b c:Int) (h0:inE c=false):∃ qs,wayV ((runFn (⟨Try.prog,[(98,ctrV C_din hardD),(100,ctrV C_nof hardD),(107,ctrV C_mof hardD)],[E_of Try.prog 57,E_of Try.prog 72],dkHo,Id'.one,60⟩:Sy Td) [] Try.f43 [.one (.v (.pointer none)),.agg [.v (.int .i64 a),.v (.int .i64 b)],.one (.v (.int .i64 c))] (roM [])).al [true]) (fun u=>u=.int .i64 0)=some qs∧∀ q∈qs,q:=
 ⟨[Value.int IntKind.i64 (Int.ofNat 0)=Value.int IntKind.i64 (Int.ofNat 0),(!inE c)=true],by kernel_rfl,(by refine mcons ?_ (mcons ?_ mnil)<;>first|rfl|exact h0|trivial|(exact congrArg (Value.int .i64) (ofE_nil h1))|(exact h1)|(simp [h0];done))⟩
set_option maxRecDepth 100000 in
theorem nmd_w1 (a b c:Int) (h0:inE c=true) (h1:0≤c∧c<8):∃ qs,wayV ((runFn (⟨Try.prog,[(98,ctrV C_din hardD),(100,ctrV C_nof hardD),(107,ctrV C_mof hardD)],[E_of Try.prog 57,E_of Try.prog 72],dkHo,Id'.one,60⟩:Sy Td) [] Try.f43 [.one (.v (.pointer none)),.agg [.v (.int .i64 a),.v (.int .i64 b)],.one (.v (.int .i64 c))] (roM [])).al [false]) (fun u=>u=.int .i64 0)=some qs∧∀ q∈qs,q:=
 ⟨[Value.int IntKind.i64 (ofE (0:Int) c)=Value.int IntKind.i64 (Int.ofNat 0),(!inE c)=false,(0:Int)≤c∧c<(8:Int)],by kernel_rfl,(by refine mcons ?_ (mcons ?_ (mcons ?_ mnil))<;>first|rfl|exact h0|exact h1|trivial|(exact congrArg (Value.int .i64) (ofE_nil h1))|(exact h1)|(simp [h0];done))⟩
def C_nmd:CtrV Td:=fun us sub=>match us,sub with
 |[.one (.v (.pointer none)),.agg [.v (.int .i64 a),.v (.int .i64 b)],.one (.v (.int .i64 c))],[]=>some ([],.int .i64 0)
 |_,_=>none
set_option maxRecDepth 100000 in
theorem C_nmd_ok:CtrVOk Try.prog Id' 43 C_nmd:=by
 intro us sub ps x h hp w e vs hM ha
 unfold C_nmd at h
 split at h
 ·rename_i a b c
  simp only [Option.some.injEq,Prod.mk.injEq] at h
  obtain ⟨rfl,rfl⟩:=h
  cases h0:inE c with
  |false=>exact ctrv_way (I:=Id') (fun (W0:World) (G:Nat→Prop)=>SyOk.mk2 Try.mixed dkHo_ok (FnsR.cons (R_din) (FnsR.cons (R_nof) (FnsR.cons (R_mof) (FnsR.nil)))) (E_of_ok (by kernel_rfl) (E_of_ok (by kernel_rfl) (EqsOk.nil)))) rfl Try.func43 (by kernel_rfl) (fun W0 G=>LpsOk.nil _) (cs:=[true]) (by kernel_rfl) (nmd_w0 a b c h0) w e vs hM ha
  |true=>exact ctrv_way (I:=Id') (fun (W0:World) (G:Nat→Prop)=>SyOk.mk2 Try.mixed dkHo_ok (FnsR.cons (R_din) (FnsR.cons (R_nof) (FnsR.cons (R_mof) (FnsR.nil)))) (E_of_ok (by kernel_rfl) (E_of_ok (by kernel_rfl) (EqsOk.nil)))) rfl Try.func43 (by kernel_rfl) (fun W0 G=>LpsOk.nil _) (cs:=[false]) (by kernel_rfl) (nmd_w1 a b c h0 (inE_in h0)) w e vs hM ha
 ·cases h
theorem R_nmd:RowOk Try.prog Id' hardD 43 (ctrV C_nmd hardD):=ctrV_ok Try.call43 C_nmd_ok
end Go.Proofs.Ytdenmoiaiemokaa
set_option linter.unusedVariables false
set_option linter.unusedSimpArgs false
namespace Go.Proofs.Ytdenmoiaiemokaa
open Go.RowKit
set_option maxRecDepth 100000 in
theorem nho_w0 (a b:Int) :∃ qs,wayV ((runFn (⟨Try.prog,[(43,ctrV C_nmd hardD)],[E_of Try.prog 57,E_of Try.prog 72],dkHo,Id'.one,60⟩:Sy Td) [] Try.f103 [.one (.v (.pointer none)),.agg [.v (.int .i64 a),.v (.int .i64 b)]] (roM [])).al [false,false,false,false,false,false,false,false]) (fun u=>u=.slice none 0 0)=some qs∧∀ q∈qs,q:=
 ⟨[Value.slice none 0 0=Value.slice none 0 0,false=false,false=false,false=false,false=false,false=false,false=false,false=false,false=false],by kernel_rfl,(by refine mcons ?_ (mcons ?_ (mcons ?_ (mcons ?_ (mcons ?_ (mcons ?_ (mcons ?_ (mcons ?_ (mcons ?_ mnil))))))))<;>first|rfl|trivial)⟩
def C_nho:CtrV Td:=fun us sub=>match us,sub with
 |[.one (.v (.pointer none)),.agg [.v (.int .i64 a),.v (.int .i64 b)]],[]=>some ([],.slice none 0 0)
 |_,_=>none
set_option maxRecDepth 100000 in
theorem C_nho_ok:CtrVOk Try.prog Id' 103 C_nho:=by
 intro us sub ps x h hp w e vs hM ha
 unfold C_nho at h
 split at h
 ·rename_i a b
  simp only [Option.some.injEq,Prod.mk.injEq] at h
  obtain ⟨rfl,rfl⟩:=h
  exact ctrv_way (I:=Id') (fun (W0:World) (G:Nat→Prop)=>SyOk.mk2 Try.mixed dkHo_ok (FnsR.cons (R_nmd) (FnsR.nil)) (E_of_ok (by kernel_rfl) (E_of_ok (by kernel_rfl) (EqsOk.nil)))) rfl Try.func103 (by kernel_rfl) (fun W0 G=>LpsOk.nil _) (cs:=[false,false,false,false,false,false,false,false]) (by kernel_rfl) (nho_w0 a b ) w e vs hM ha
 ·cases h
theorem R_nho:RowOk Try.prog Id' hardD 103 (ctrV C_nho hardD):=ctrV_ok Try.call103 C_nho_ok
end Go.Proofs.Ytdenmoiaiemokaa
set_option linter.unusedVariables false
set_option linter.unusedSimpArgs false
namespace Go.Proofs.Ytdenmoiaiemokaa
open Go.RowKit
set_option maxRecDepth 100000 in
theorem not__w0 (a b c md:Int) :∃ qs,wayV ((runFn (⟨Try.prog,[(103,ctrV C_nho hardD)],[E_of Try.prog 57,E_of Try.prog 72],dkHo,Id'.one,60⟩:Sy Td) [] Try.f39 [.one (.v (.pointer none)),.agg [.v (.int .i64 a),.v (.int .i64 b)],.one (.v (.int .i64 c)),.one (.v (.int .i64 md))] (roM [])).al [false]) (fun u=>u=.slice none 0 0)=some qs∧∀ q∈qs,q:=
 ⟨[Value.slice none 0 0=Value.slice none 0 0,false=false],by kernel_rfl,(by refine mcons ?_ (mcons ?_ mnil)<;>first|rfl|trivial)⟩
def C_not_:CtrV Td:=fun us sub=>match us,sub with
 |[.one (.v (.pointer none)),.agg [.v (.int .i64 a),.v (.int .i64 b)],.one (.v (.int .i64 c)),.one (.v (.int .i64 md))],[]=>some ([],.slice none 0 0)
 |_,_=>none
set_option maxRecDepth 100000 in
theorem C_not__ok:CtrVOk Try.prog Id' 39 C_not_:=by
 intro us sub ps x h hp w e vs hM ha
 unfold C_not_ at h
 split at h
 ·rename_i a b c md
  simp only [Option.some.injEq,Prod.mk.injEq] at h
  obtain ⟨rfl,rfl⟩:=h
  exact ctrv_way (I:=Id') (fun (W0:World) (G:Nat→Prop)=>SyOk.mk2 Try.mixed dkHo_ok (FnsR.cons (R_nho) (FnsR.nil)) (E_of_ok (by kernel_rfl) (E_of_ok (by kernel_rfl) (EqsOk.nil)))) rfl Try.func39 (by kernel_rfl) (fun W0 G=>LpsOk.nil _) (cs:=[false]) (by kernel_rfl) (not__w0 a b c md ) w e vs hM ha
 ·cases h
theorem R_not_:RowOk Try.prog Id' hardD 39 (ctrV C_not_ hardD):=ctrV_ok Try.call39 C_not__ok
end Go.Proofs.Ytdenmoiaiemokaa
set_option linter.unusedVariables false
set_option linter.unusedSimpArgs false
namespace Go.Proofs.Ytdenmoiaiemokaa
open Go.RowKit
set_option maxRecDepth 100000 in
theorem nne_w0 (a b c md:Int) :∃ qs,wayV ((runFn (⟨Try.prog,[(39,ctrV C_not_ hardD)],[E_of Try.prog 57,E_of Try.prog 72],dkHo,Id'.one,60⟩:Sy Td) [] Try.f40 [.one (.v (.pointer none)),.one (.v (.pointer none)),.agg [.v (.int .i64 a),.v (.int .i64 b)],.one (.v (.int .i64 c)),.one (.v (.int .i64 md))] (roM [])).al [false]) (fun u=>u=.int .i64 0)=some qs∧∀ q∈qs,q:=
 ⟨[Value.int IntKind.i64 (Int.ofNat 0)=Value.int IntKind.i64 (Int.ofNat 0),false=false],by kernel_rfl,(by refine mcons ?_ (mcons ?_ mnil)<;>first|rfl|trivial)⟩
def C_nne:CtrV Td:=fun us sub=>match us,sub with
 |[.one (.v (.pointer none)),.one (.v (.pointer none)),.agg [.v (.int .i64 a),.v (.int .i64 b)],.one (.v (.int .i64 c)),.one (.v (.int .i64 md))],[]=>some ([],.int .i64 0)
 |_,_=>none
set_option maxRecDepth 100000 in
theorem C_nne_ok:CtrVOk Try.prog Id' 40 C_nne:=by
 intro us sub ps x h hp w e vs hM ha
 unfold C_nne at h
 split at h
 ·rename_i a b c md
  simp only [Option.some.injEq,Prod.mk.injEq] at h
  obtain ⟨rfl,rfl⟩:=h
  exact ctrv_way (I:=Id') (fun (W0:World) (G:Nat→Prop)=>SyOk.mk2 Try.mixed dkHo_ok (FnsR.cons (R_not_) (FnsR.nil)) (E_of_ok (by kernel_rfl) (E_of_ok (by kernel_rfl) (EqsOk.nil)))) rfl Try.func40 (by kernel_rfl) (fun W0 G=>LpsOk.nil _) (cs:=[false]) (by kernel_rfl) (nne_w0 a b c md ) w e vs hM ha
 ·cases h
theorem R_nne:RowOk Try.prog Id' hardD 40 (ctrV C_nne hardD):=ctrV_ok Try.call40 C_nne_ok
end Go.Proofs.Ytdenmoiaiemokaa
set_option linter.unusedVariables false
set_option linter.unusedSimpArgs false
namespace Go.Proofs.Ytdenmoiaiemokaa
open Go.RowKit
set_option maxRecDepth 100000 in
theorem rnob_w0 (a b c:Int) :∃ qs,wayO Id' ([]:Mem Td).length [] (svV (.bool true)) ((runFn (⟨Try.prog,[(35,ctrV C_nwt hardD),(45,ctrV C_ndo hardD),(42,ctrV C_nhs hardD),(46,ctrV C_ngo hardD),(47,ctrV C_ncl2 hardD),(38,ctrV C_nal hardD),(48,ctrV C_nqf hardD),(41,ctrV C_nse hardD),(40,ctrV C_nne hardD),(44,ctrF Id' C_lv22 hardD)],[],dkHo,Id'.one,60⟩:Sy Td) [] Try.f5 [.agg [.v (.int .i64 a),.v (.int .i64 b)],.one (.v (.int .i64 c))] []).al [true])=some qs∧∀ q∈qs,q:=
 ⟨[true=true,true=true,Value.bool true=Value.bool true],by kernel_rfl,(by refine mcons ?_ (mcons ?_ (mcons ?_ mnil))<;>first|rfl|trivial)⟩
def C_rnob:Ctr Td:=fun us sub=>match us,sub with
 |[.agg [.v (.int .i64 a),.v (.int .i64 b)],.one (.v (.int .i64 c))],[]=>some ([],svV (.bool true),[])
 |_,_=>none
set_option maxRecDepth 100000 in
theorem C_rnob_ok:CtrOk Try.prog Id' 5 C_rnob:=by
 intro us sub ps x sm h hp w e vs hM ha
 unfold C_rnob at h
 split at h
 ·rename_i a b c
  simp only [Option.some.injEq,Prod.mk.injEq] at h
  obtain ⟨rfl,rfl,rfl⟩:=h
  exact ctr_way (I:=Id') (fun (W0:World) (G:Nat→Prop)=>SyOk.mk2 Try.mixed dkHo_ok (FnsR.cons (R_nwt) (FnsR.cons (R_ndo) (FnsR.cons (R_nhs) (FnsR.cons (R_ngo) (FnsR.cons (R_ncl2) (FnsR.cons (R_nal) (FnsR.cons (R_nqf) (FnsR.cons (R_nse) (FnsR.cons (R_nne) (FnsR.cons (R_lv22) (FnsR.nil))))))))))) EqsOk.nil) rfl Try.func5 (by kernel_rfl) (fun W0 G=>LpsOk.nil _) (cs:=[true]) (by kernel_rfl) (rnob_w0 a b c ) w e vs hM ha
 ·cases h
theorem recallNobody_calls (f:Int×Int) (c:Int) (W:World) (_:True) (_:-9223372036854775808≤c∧c≤9223372036854775807):Calls Try.prog 5 #[.agg #[.int .i64 f.1,.int .i64 f.2],.int .i64 c] W fun e w'=>e=.returned (.bool true)∧Below W.heap.size W w':=by
 refine (C_rnob_ok [.agg [.v (.int .i64 f.1),.v (.int .i64 f.2)],.one (.v (.int .i64 c))] [] _ _ _ rfl (fun p hp=>by cases hp) W [] [.agg #[.int .i64 f.1,.int .i64 f.2],.int .i64 c] (args_nil Id' W) ⟨?_,rfl,trivial⟩).mono fun y w' ⟨u,e',h1,_,h2,h3⟩=>⟨h1.trans (congrArg _ h2),?_⟩
 ·exact ⟨[.int .i64 f.1,.int .i64 f.2],⟨rfl,rfl,trivial⟩,rfl⟩
 have hx:Ext W w':=h3.mod.mono fun k _ hk=>by
  obtain ⟨i,_,n,_,hn,hmu,_⟩:=footE.1 hk
  cases i<;>simp at hn
 exact hx.below
end Go.Proofs.Ytdenmoiaiemokaa
