/- Y25. -/
import Derived.Test.YtdenmoiaiemokaaW30p
import Derived.Test.YtdenmoiaiemokaaH13p
import Derived.Test.YtdenmoiaiemokaaW56p
set_option linter.unusedVariables false
set_option linter.unusedSimpArgs false
namespace Go.Proofs.Ytdenmoiaiemokaa
open Go.RowKit
set_option maxRecDepth 100000 in
theorem nwt_w0 (a b c:Int) :∃ qs,wayV ((runFn (⟨Try.prog,[],[E_of Try.prog 57,E_of Try.prog 72],dkHo,Id'.one,60⟩:Sy Td) [] Try.f35 [.one (.v (.pointer none)),.agg [.v (.int .i64 a),.v (.int .i64 b)],.one (.v (.int .i64 c))] (roM [])).al []) (fun u=>u=.int .i64 1)=some qs∧∀ q∈qs,q:=
 ⟨[Value.int IntKind.i64 (Int.ofNat 1)=Value.int IntKind.i64 (Int.ofNat 1)],by kernel_rfl,(by refine mcons ?_ mnil<;>first|rfl|trivial)⟩
def C_nwt:CtrV Td:=fun us sub=>match us,sub with
 |[.one (.v (.pointer none)),.agg [.v (.int .i64 a),.v (.int .i64 b)],.one (.v (.int .i64 c))],[]=>some ([],.int .i64 1)
 |_,_=>none
set_option maxRecDepth 100000 in
theorem C_nwt_ok:CtrVOk Try.prog Id' 35 C_nwt:=by
 intro us sub ps x h hp w e vs hM ha
 unfold C_nwt at h
 split at h
 ·rename_i a b c
  simp only [Option.some.injEq,Prod.mk.injEq] at h
  obtain ⟨rfl,rfl⟩:=h
  exact ctrv_way (I:=Id') (fun (W0:World) (G:Nat→Prop)=>SyOk.mk2 Try.mixed dkHo_ok (FnsR.nil) (E_of_ok (by kernel_rfl) (E_of_ok (by kernel_rfl) (EqsOk.nil)))) rfl Try.func35 (by kernel_rfl) (fun W0 G=>LpsOk.nil _) (cs:=[]) (by kernel_rfl) (nwt_w0 a b c ) w e vs hM ha
 ·cases h
theorem R_nwt:RowOk Try.prog Id' hardD 35 (ctrV C_nwt hardD):=ctrV_ok Try.call35 C_nwt_ok
set_option maxRecDepth 100000 in
theorem nhs_w0 (a b c:Int) :∃ qs,wayV ((runFn (⟨Try.prog,[(106,ctrV C_sct hardD)],[E_of Try.prog 57,E_of Try.prog 72],dkHo,Id'.one,60⟩:Sy Td) [] Try.f42 [.one (.v (.pointer none)),.agg [.v (.int .i64 a),.v (.int .i64 b)],.one (.v (.int .i64 c))] (roM [])).al []) (fun u=>u=.bool false)=some qs∧∀ q∈qs,q:=
 ⟨[Value.bool false=Value.bool false],by kernel_rfl,(by refine mcons ?_ mnil<;>first|rfl|trivial)⟩
def C_nhs:CtrV Td:=fun us sub=>match us,sub with
 |[.one (.v (.pointer none)),.agg [.v (.int .i64 a),.v (.int .i64 b)],.one (.v (.int .i64 c))],[]=>some ([],.bool false)
 |_,_=>none
set_option maxRecDepth 100000 in
theorem C_nhs_ok:CtrVOk Try.prog Id' 42 C_nhs:=by
 intro us sub ps x h hp w e vs hM ha
 unfold C_nhs at h
 split at h
 ·rename_i a b c
  simp only [Option.some.injEq,Prod.mk.injEq] at h
  obtain ⟨rfl,rfl⟩:=h
  exact ctrv_way (I:=Id') (fun (W0:World) (G:Nat→Prop)=>SyOk.mk2 Try.mixed dkHo_ok (FnsR.cons (R_sct) (FnsR.nil)) (E_of_ok (by kernel_rfl) (E_of_ok (by kernel_rfl) (EqsOk.nil)))) rfl Try.func42 (by kernel_rfl) (fun W0 G=>LpsOk.nil _) (cs:=[]) (by kernel_rfl) (nhs_w0 a b c ) w e vs hM ha
 ·cases h
theorem R_nhs:RowOk Try.prog Id' hardD 42 (ctrV C_nhs hardD):=ctrV_ok Try.call42 C_nhs_ok
set_option maxRecDepth 100000 in
theorem nal_w0  :∃ qs,wayV ((runFn (⟨Try.prog,[],[E_of Try.prog 57,E_of Try.prog 72],dkHo,Id'.one,60⟩:Sy Td) [] Try.f38 [.one (.v (.pointer none))] (roM [])).al []) (fun u=>u=.slice none 0 0)=some qs∧∀ q∈qs,q:=
 ⟨[Value.slice none 0 0=Value.slice none 0 0],by kernel_rfl,(by refine mcons ?_ mnil<;>first|rfl|trivial)⟩
def C_nal:CtrV Td:=fun us sub=>match us,sub with
 |[.one (.v (.pointer none))],[]=>some ([],.slice none 0 0)
 |_,_=>none
set_option maxRecDepth 100000 in
theorem C_nal_ok:CtrVOk Try.prog Id' 38 C_nal:=by
 intro us sub ps x h hp w e vs hM ha
 unfold C_nal at h
 split at h
 ·skip
  simp only [Option.some.injEq,Prod.mk.injEq] at h
  obtain ⟨rfl,rfl⟩:=h
  exact ctrv_way (I:=Id') (fun (W0:World) (G:Nat→Prop)=>SyOk.mk2 Try.mixed dkHo_ok (FnsR.nil) (E_of_ok (by kernel_rfl) (E_of_ok (by kernel_rfl) (EqsOk.nil)))) rfl Try.func38 (by kernel_rfl) (fun W0 G=>LpsOk.nil _) (cs:=[]) (by kernel_rfl) (nal_w0  ) w e vs hM ha
 ·cases h
theorem R_nal:RowOk Try.prog Id' hardD 38 (ctrV C_nal hardD):=ctrV_ok Try.call38 C_nal_ok
def C_nwD:CtrV Td:=fun us sub=>match us,sub with
 |[.one (.v (.pointer none)),.fn 108 [.ptr 0 0,.ptr 1 0]],[⟨.blk [.v (.int .i64 a),.v (.int .i64 b)],false⟩,⟨.blk [.v (.int .i64 c)],false⟩]=>some ([],.int .i64 0)
 |_,_=>none
set_option maxRecDepth 100000 in
theorem nwG_w0 (c:Int) :∃ qs,wayV ((runFn (⟨Try.prog,[],[E_of Try.prog 57,E_of Try.prog 72],dkHo,Id'.one,60⟩:Sy Td) [] Try.f104 [.one (.v (.pointer none)),.fn 109 [.ptr 0 0]] (roM [⟨.blk [.v (.int .i64 c)],false⟩])).al []) (fun u=>u=.int .i64 0)=some qs∧∀ q∈qs,q:=
 ⟨[Value.int IntKind.i64 (Int.ofNat 0)=Value.int IntKind.i64 (Int.ofNat 0)],by kernel_rfl,(by refine mcons ?_ mnil<;>first|rfl|trivial)⟩
def C_nwG:CtrV Td:=fun us sub=>match us,sub with
 |[.one (.v (.pointer none)),.fn 109 [.ptr 0 0]],[⟨.blk [.v (.int .i64 c)],false⟩]=>some ([],.int .i64 0)
 |_,_=>none
set_option maxRecDepth 100000 in
theorem C_nwG_ok:CtrVOk Try.prog Id' 104 C_nwG:=by
 intro us sub ps x h hp w e vs hM ha
 unfold C_nwG at h
 split at h
 ·rename_i c
  simp only [Option.some.injEq,Prod.mk.injEq] at h
  obtain ⟨rfl,rfl⟩:=h
  exact ctrv_way (I:=Id') (fun (W0:World) (G:Nat→Prop)=>SyOk.mk2 Try.mixed dkHo_ok (FnsR.nil) (E_of_ok (by kernel_rfl) (E_of_ok (by kernel_rfl) (EqsOk.nil)))) rfl Try.func104 (by kernel_rfl) (fun W0 G=>LpsOk.nil _) (cs:=[]) (by kernel_rfl) (nwG_w0 c ) w e vs hM ha
 ·cases h
theorem R_nwG:RowOk Try.prog Id' hardD 104 (ctrV C_nwG hardD):=ctrV_ok Try.call104 C_nwG_ok
set_option maxRecDepth 100000 in
theorem nwC_w0 (a b:Int) :∃ qs,wayV ((runFn (⟨Try.prog,[],[E_of Try.prog 57,E_of Try.prog 72],dkHo,Id'.one,60⟩:Sy Td) [] Try.f104 [.one (.v (.pointer none)),.fn 110 [.ptr 0 0]] (roM [⟨.blk [.v (.int .i64 a),.v (.int .i64 b)],false⟩])).al []) (fun u=>u=.int .i64 0)=some qs∧∀ q∈qs,q:=
 ⟨[Value.int IntKind.i64 (Int.ofNat 0)=Value.int IntKind.i64 (Int.ofNat 0)],by kernel_rfl,(by refine mcons ?_ mnil<;>first|rfl|trivial)⟩
def C_nwC:CtrV Td:=fun us sub=>match us,sub with
 |[.one (.v (.pointer none)),.fn 110 [.ptr 0 0]],[⟨.blk [.v (.int .i64 a),.v (.int .i64 b)],false⟩]=>some ([],.int .i64 0)
 |_,_=>none
set_option maxRecDepth 100000 in
theorem C_nwC_ok:CtrVOk Try.prog Id' 104 C_nwC:=by
 intro us sub ps x h hp w e vs hM ha
 unfold C_nwC at h
 split at h
 ·rename_i a b
  simp only [Option.some.injEq,Prod.mk.injEq] at h
  obtain ⟨rfl,rfl⟩:=h
  exact ctrv_way (I:=Id') (fun (W0:World) (G:Nat→Prop)=>SyOk.mk2 Try.mixed dkHo_ok (FnsR.nil) (E_of_ok (by kernel_rfl) (E_of_ok (by kernel_rfl) (EqsOk.nil)))) rfl Try.func104 (by kernel_rfl) (fun W0 G=>LpsOk.nil _) (cs:=[]) (by kernel_rfl) (nwC_w0 a b ) w e vs hM ha
 ·cases h
theorem R_nwC:RowOk Try.prog Id' hardD 104 (ctrV C_nwC hardD):=ctrV_ok Try.call104 C_nwC_ok
set_option maxRecDepth 100000 in
theorem nwS_w0  :∃ qs,wayV ((runFn (⟨Try.prog,[],[E_of Try.prog 57,E_of Try.prog 72],dkHo,Id'.one,60⟩:Sy Td) [] Try.f104 [.one (.v (.pointer none)),.fn 105 [.ptr 0 0]] (roM [⟨.blk [.v (.pointer none)],false⟩])).al []) (fun u=>u=.int .i64 0)=some qs∧∀ q∈qs,q:=
 ⟨[Value.int IntKind.i64 (Int.ofNat 0)=Value.int IntKind.i64 (Int.ofNat 0)],by kernel_rfl,(by refine mcons ?_ mnil<;>first|rfl|trivial)⟩
def C_nwS:CtrV Td:=fun us sub=>match us,sub with
 |[.one (.v (.pointer none)),.fn 105 [.ptr 0 0]],[⟨.blk [.v (.pointer none)],false⟩]=>some ([],.int .i64 0)
 |_,_=>none
set_option maxRecDepth 100000 in
theorem C_nwS_ok:CtrVOk Try.prog Id' 104 C_nwS:=by
 intro us sub ps x h hp w e vs hM ha
 unfold C_nwS at h
 split at h
 ·skip
  simp only [Option.some.injEq,Prod.mk.injEq] at h
  obtain ⟨rfl,rfl⟩:=h
  exact ctrv_way (I:=Id') (fun (W0:World) (G:Nat→Prop)=>SyOk.mk2 Try.mixed dkHo_ok (FnsR.nil) (E_of_ok (by kernel_rfl) (E_of_ok (by kernel_rfl) (EqsOk.nil)))) rfl Try.func104 (by kernel_rfl) (fun W0 G=>LpsOk.nil _) (cs:=[]) (by kernel_rfl) (nwS_w0  ) w e vs hM ha
 ·cases h
theorem R_nwS:RowOk Try.prog Id' hardD 104 (ctrV C_nwS hardD):=ctrV_ok Try.call104 C_nwS_ok
set_option maxRecDepth 100000 in
theorem nof_w0 (a b:Int) :∃ qs,wayV ((runFn (⟨Try.prog,[],[E_of Try.prog 57,E_of Try.prog 72],dkHo,Id'.one,60⟩:Sy Td) [] Try.f100 [.one (.v (.pointer none)),.agg [.v (.int .i64 a),.v (.int .i64 b)]] (roM [])).al []) (fun u=>u=.int .u16 0)=some qs∧∀ q∈qs,q:=
 ⟨[Value.int IntKind.u16 (Int.ofNat 0)=Value.int IntKind.u16 (Int.ofNat 0)],by kernel_rfl,(by refine mcons ?_ mnil<;>first|rfl|trivial)⟩
def C_nof:CtrV Td:=fun us sub=>match us,sub with
 |[.one (.v (.pointer none)),.agg [.v (.int .i64 a),.v (.int .i64 b)]],[]=>some ([],.int .u16 0)
 |_,_=>none
set_option maxRecDepth 100000 in
theorem C_nof_ok:CtrVOk Try.prog Id' 100 C_nof:=by
 intro us sub ps x h hp w e vs hM ha
 unfold C_nof at h
 split at h
 ·rename_i a b
  simp only [Option.some.injEq,Prod.mk.injEq] at h
  obtain ⟨rfl,rfl⟩:=h
  exact ctrv_way (I:=Id') (fun (W0:World) (G:Nat→Prop)=>SyOk.mk2 Try.mixed dkHo_ok (FnsR.nil) (E_of_ok (by kernel_rfl) (E_of_ok (by kernel_rfl) (EqsOk.nil)))) rfl Try.func100 (by kernel_rfl) (fun W0 G=>LpsOk.nil _) (cs:=[]) (by kernel_rfl) (nof_w0 a b ) w e vs hM ha
 ·cases h
theorem R_nof:RowOk Try.prog Id' hardD 100 (ctrV C_nof hardD):=ctrV_ok Try.call100 C_nof_ok
end Go.Proofs.Ytdenmoiaiemokaa
