/- Y26. -/
import Derived.Test.YtdenmoiaiemokaaY25p
import Derived.Test.YtdenmoiaiemokaaH13p
import Derived.Test.YtdenmoiaiemokaaW56p
set_option linter.unusedVariables false
set_option linter.unusedSimpArgs false
namespace Go.Proofs.Ytdenmoiaiemokaa
open Go.RowKit
set_option maxRecDepth 100000 in
theorem ngo_w0 (c:Int) :∃ qs,wayV ((runFn (⟨Try.prog,[(104,ctrV C_nwG hardD)],[E_of Try.prog 57,E_of Try.prog 72],dkHo,Id'.one,60⟩:Sy Td) [(100001,mapG (modAt fzE 0) (⟨Try.prog,[(104,ctrV C_nwG hardD)],[E_of Try.prog 57,E_of Try.prog 72],dkHo,Id'.one,60⟩:Sy Td) 8 (regO 1 (bodyOf Try.f46)) (drwR 1 (bodyOf Try.f46)))] Try.f46 [.one (.v (.pointer none)),.one (.v (.int .i64 c))] (roM [])).al []) (fun u=>u=.int .i64 0)=some qs∧∀ q∈qs,q:=
 ⟨[Value.int IntKind.i64 (Int.ofNat 0)=Value.int IntKind.i64 (Int.ofNat 0)],by kernel_rfl,(by refine mcons ?_ mnil<;>first|rfl|trivial)⟩
def C_ngo:CtrV Td:=fun us sub=>match us,sub with
 |[.one (.v (.pointer none)),.one (.v (.int .i64 c))],[]=>some ([],.int .i64 0)
 |_,_=>none
set_option maxRecDepth 100000 in
theorem C_ngo_ok:CtrVOk Try.prog Id' 46 C_ngo:=by
 intro us sub ps x h hp w e vs hM ha
 unfold C_ngo at h
 split at h
 ·rename_i c
  simp only [Option.some.injEq,Prod.mk.injEq] at h
  obtain ⟨rfl,rfl⟩:=h
  exact ctrv_way (I:=Id') (fun (W0:World) (G:Nat→Prop)=>SyOk.mk2 Try.mixed dkHo_ok (FnsR.cons (R_nwG) (FnsR.nil)) (E_of_ok (by kernel_rfl) (E_of_ok (by kernel_rfl) (EqsOk.nil)))) rfl Try.func46 (by kernel_rfl) (fun W0 G=>LpsOk.cons (by kernel_rfl) (mapG_sound (id:=1) ((fun (W0:World) (G:Nat→Prop)=>SyOk.mk2 Try.mixed dkHo_ok (FnsR.cons (R_nwG) (FnsR.nil)) (E_of_ok (by kernel_rfl) (E_of_ok (by kernel_rfl) (EqsOk.nil)))) W0 G) rfl (fun w e mem h=>fz_ok (W0:=W0) (G:=G) 0 w e mem h)) (LpsOk.nil _)) (cs:=[]) (by kernel_rfl) (ngo_w0 c ) w e vs hM ha
 ·cases h
theorem R_ngo:RowOk Try.prog Id' hardD 46 (ctrV C_ngo hardD):=ctrV_ok Try.call46 C_ngo_ok
set_option maxRecDepth 100000 in
theorem ncl2_w0 (a b:Int) :∃ qs,wayV ((runFn (⟨Try.prog,[(104,ctrV C_nwC hardD)],[E_of Try.prog 57,E_of Try.prog 72],dkHo,Id'.one,60⟩:Sy Td) [(100001,mapG (modAt fzE 0) (⟨Try.prog,[(104,ctrV C_nwC hardD)],[E_of Try.prog 57,E_of Try.prog 72],dkHo,Id'.one,60⟩:Sy Td) 8 (regO 1 (bodyOf Try.f47)) (drwR 1 (bodyOf Try.f47)))] Try.f47 [.one (.v (.pointer none)),.agg [.v (.int .i64 a),.v (.int .i64 b)]] (roM [])).al []) (fun u=>u=.int .i64 0)=some qs∧∀ q∈qs,q:=
 ⟨[Value.int IntKind.i64 (Int.ofNat 0)=Value.int IntKind.i64 (Int.ofNat 0)],by kernel_rfl,(by refine mcons ?_ mnil<;>first|rfl|trivial)⟩
def C_ncl2:CtrV Td:=fun us sub=>match us,sub with
 |[.one (.v (.pointer none)),.agg [.v (.int .i64 a),.v (.int .i64 b)]],[]=>some ([],.int .i64 0)
 |_,_=>none
set_option maxRecDepth 100000 in
theorem C_ncl2_ok:CtrVOk Try.prog Id' 47 C_ncl2:=by
 intro us sub ps x h hp w e vs hM ha
 unfold C_ncl2 at h
 split at h
 ·rename_i a b
  simp only [Option.some.injEq,Prod.mk.injEq] at h
  obtain ⟨rfl,rfl⟩:=h
  exact ctrv_way (I:=Id') (fun (W0:World) (G:Nat→Prop)=>SyOk.mk2 Try.mixed dkHo_ok (FnsR.cons (R_nwC) (FnsR.nil)) (E_of_ok (by kernel_rfl) (E_of_ok (by kernel_rfl) (EqsOk.nil)))) rfl Try.func47 (by kernel_rfl) (fun W0 G=>LpsOk.cons (by kernel_rfl) (mapG_sound (id:=1) ((fun (W0:World) (G:Nat→Prop)=>SyOk.mk2 Try.mixed dkHo_ok (FnsR.cons (R_nwC) (FnsR.nil)) (E_of_ok (by kernel_rfl) (E_of_ok (by kernel_rfl) (EqsOk.nil)))) W0 G) rfl (fun w e mem h=>fz_ok (W0:=W0) (G:=G) 0 w e mem h)) (LpsOk.nil _)) (cs:=[]) (by kernel_rfl) (ncl2_w0 a b ) w e vs hM ha
 ·cases h
theorem R_ncl2:RowOk Try.prog Id' hardD 47 (ctrV C_ncl2 hardD):=ctrV_ok Try.call47 C_ncl2_ok
set_option maxRecDepth 100000 in
theorem nse_w0  :∃ qs,wayV ((runFn (⟨Try.prog,[(104,ctrV C_nwS hardD)],[E_of Try.prog 57,E_of Try.prog 72],dkHo,Id'.one,60⟩:Sy Td) [(100001,mapG (modAt fzE 0) (⟨Try.prog,[(104,ctrV C_nwS hardD)],[E_of Try.prog 57,E_of Try.prog 72],dkHo,Id'.one,60⟩:Sy Td) 8 (regO 1 (bodyOf Try.f41)) (drwR 1 (bodyOf Try.f41)))] Try.f41 [.one (.v (.pointer none)),.one (.v (.pointer none))] (roM [])).al []) (fun u=>u=.int .i64 0)=some qs∧∀ q∈qs,q:=
 ⟨[Value.int IntKind.i64 (Int.ofNat 0)=Value.int IntKind.i64 (Int.ofNat 0)],by kernel_rfl,(by refine mcons ?_ mnil<;>first|rfl|trivial)⟩
def C_nse:CtrV Td:=fun us sub=>match us,sub with
 |[.one (.v (.pointer none)),.one (.v (.pointer none))],[]=>some ([],.int .i64 0)
 |_,_=>none
set_option maxRecDepth 100000 in
theorem C_nse_ok:CtrVOk Try.prog Id' 41 C_nse:=by
 intro us sub ps x h hp w e vs hM ha
 unfold C_nse at h
 split at h
 ·skip
  simp only [Option.some.injEq,Prod.mk.injEq] at h
  obtain ⟨rfl,rfl⟩:=h
  exact ctrv_way (I:=Id') (fun (W0:World) (G:Nat→Prop)=>SyOk.mk2 Try.mixed dkHo_ok (FnsR.cons (R_nwS) (FnsR.nil)) (E_of_ok (by kernel_rfl) (E_of_ok (by kernel_rfl) (EqsOk.nil)))) rfl Try.func41 (by kernel_rfl) (fun W0 G=>LpsOk.cons (by kernel_rfl) (mapG_sound (id:=1) ((fun (W0:World) (G:Nat→Prop)=>SyOk.mk2 Try.mixed dkHo_ok (FnsR.cons (R_nwS) (FnsR.nil)) (E_of_ok (by kernel_rfl) (E_of_ok (by kernel_rfl) (EqsOk.nil)))) W0 G) rfl (fun w e mem h=>fz_ok (W0:=W0) (G:=G) 0 w e mem h)) (LpsOk.nil _)) (cs:=[]) (by kernel_rfl) (nse_w0  ) w e vs hM ha
 ·cases h
theorem R_nse:RowOk Try.prog Id' hardD 41 (ctrV C_nse hardD):=ctrV_ok Try.call41 C_nse_ok
set_option maxRecDepth 100000 in
theorem nqf_w0 (c:Int) :∃ qs,wayV ((runFn (⟨Try.prog,[(38,ctrV C_nal hardD)],[E_of Try.prog 57,E_of Try.prog 72],dkHo,Id'.one,60⟩:Sy Td) [] Try.f48 [.one (.v (.pointer none)),.one (.v (.int .i64 c))] (roM [])).al [false]) (fun u=>u=.slice none 0 0)=some qs∧∀ q∈qs,q:=
 ⟨[Value.slice none 0 0=Value.slice none 0 0,false=false],by kernel_rfl,(by refine mcons ?_ (mcons ?_ mnil)<;>first|rfl|trivial)⟩
def C_nqf:CtrV Td:=fun us sub=>match us,sub with
 |[.one (.v (.pointer none)),.one (.v (.int .i64 c))],[]=>some ([],.slice none 0 0)
 |_,_=>none
set_option maxRecDepth 100000 in
theorem C_nqf_ok:CtrVOk Try.prog Id' 48 C_nqf:=by
 intro us sub ps x h hp w e vs hM ha
 unfold C_nqf at h
 split at h
 ·rename_i c
  simp only [Option.some.injEq,Prod.mk.injEq] at h
  obtain ⟨rfl,rfl⟩:=h
  exact ctrv_way (I:=Id') (fun (W0:World) (G:Nat→Prop)=>SyOk.mk2 Try.mixed dkHo_ok (FnsR.cons (R_nal) (FnsR.nil)) (E_of_ok (by kernel_rfl) (E_of_ok (by kernel_rfl) (EqsOk.nil)))) rfl Try.func48 (by kernel_rfl) (fun W0 G=>LpsOk.nil _) (cs:=[false]) (by kernel_rfl) (nqf_w0 c ) w e vs hM ha
 ·cases h
theorem R_nqf:RowOk Try.prog Id' hardD 48 (ctrV C_nqf hardD):=ctrV_ok Try.call48 C_nqf_ok
set_option maxRecDepth 100000 in
theorem ndo_w0 (a b c:Int) :∃ qs,wayV ((runFn (⟨Try.prog,[],[E_of Try.prog 57,E_of Try.prog 72],dkHo,Id'.one,60⟩:Sy Td) [] Try.f45 [.one (.v (.pointer none)),.agg [.v (.int .i64 a),.v (.int .i64 b)],.one (.v (.int .i64 c))] (roM [])).al []) (fun u=>u=.int .i64 1)=some qs∧∀ q∈qs,q:=
 ⟨[Value.int IntKind.i64 (Int.ofNat 1)=Value.int IntKind.i64 (Int.ofNat 1)],by kernel_rfl,(by refine mcons ?_ mnil<;>first|rfl|trivial)⟩
def C_ndo:CtrV Td:=fun us sub=>match us,sub with
 |[.one (.v (.pointer none)),.agg [.v (.int .i64 a),.v (.int .i64 b)],.one (.v (.int .i64 c))],[]=>some ([],.int .i64 1)
 |_,_=>none
set_option maxRecDepth 100000 in
theorem C_ndo_ok:CtrVOk Try.prog Id' 45 C_ndo:=by
 intro us sub ps x h hp w e vs hM ha
 unfold C_ndo at h
 split at h
 ·rename_i a b c
  simp only [Option.some.injEq,Prod.mk.injEq] at h
  obtain ⟨rfl,rfl⟩:=h
  exact ctrv_way (I:=Id') (fun (W0:World) (G:Nat→Prop)=>SyOk.mk2 Try.mixed dkHo_ok (FnsR.nil) (E_of_ok (by kernel_rfl) (E_of_ok (by kernel_rfl) (EqsOk.nil)))) rfl Try.func45 (by kernel_rfl) (fun W0 G=>LpsOk.nil _) (cs:=[]) (by kernel_rfl) (ndo_w0 a b c ) w e vs hM ha
 ·cases h
theorem R_ndo:RowOk Try.prog Id' hardD 45 (ctrV C_ndo hardD):=ctrV_ok Try.call45 C_ndo_ok
end Go.Proofs.Ytdenmoiaiemokaa
