/- Y1. -/
import Derived.Test.YtdenmoiaiemokaaH9p
import Derived.Test.YtdenmoiaiemokaaT20p
set_option maxRecDepth 100000
set_option linter.unusedSimpArgs false
set_option linter.unusedVariables false
namespace Go.Proofs.Ytdenmoiaiemokaa
open Go.RowKit
def ofE (m c:Int):Int:=IntKind.i64.wrap (IntKind.u16.wrap ((BitVec.ofInt IntKind.u16.bits (m.fdiv ((2:Int) ^ min (IntKind.i64.wrap ((2:Int) * c)).toNat IntKind.u16.bits)) &&& BitVec.ofInt IntKind.u16.bits (3:Int)).toNat:Int))
def wiE (m c x:Int):Int:=IntKind.u16.wrap ((BitVec.ofInt IntKind.u16.bits (IntKind.u16.wrap ((BitVec.ofInt IntKind.u16.bits m &&& ~~~BitVec.ofInt IntKind.u16.bits (IntKind.u16.wrap ((3:Int) * (2:Int) ^ min (IntKind.i64.wrap ((2:Int) * c)).toNat IntKind.u16.bits))).toNat:Int)) ||| BitVec.ofInt IntKind.u16.bits (IntKind.u16.wrap (IntKind.u16.wrap x * (2:Int) ^ min (IntKind.i64.wrap ((2:Int) * c)).toNat IntKind.u16.bits))).toNat:Int)
def inE (c:Int):Bool:=decide (c≥0)&&decide (c<8)
theorem mof_k0 (m:Int):∃ qs,wayV ((runFn (⟨Try.prog,[],[],dkHo,Id'.one,60⟩:Sy Td) [] Try.f107 [.one (.v (.int .u16 m)),.one (.v (.int .i64 0))] (roM [])).al []) (fun u=>u=.int .i64 (ofE m 0))=some qs∧∀ q∈qs,q:=
 ⟨[Value.int .i64 (ofE m 0)=Value.int .i64 (ofE m 0)],by kernel_rfl,mcons rfl mnil⟩
theorem mof_k1 (m:Int):∃ qs,wayV ((runFn (⟨Try.prog,[],[],dkHo,Id'.one,60⟩:Sy Td) [] Try.f107 [.one (.v (.int .u16 m)),.one (.v (.int .i64 1))] (roM [])).al []) (fun u=>u=.int .i64 (ofE m 1))=some qs∧∀ q∈qs,q:=
 ⟨[Value.int .i64 (ofE m 1)=Value.int .i64 (ofE m 1)],by kernel_rfl,mcons rfl mnil⟩
theorem mof_k2 (m:Int):∃ qs,wayV ((runFn (⟨Try.prog,[],[],dkHo,Id'.one,60⟩:Sy Td) [] Try.f107 [.one (.v (.int .u16 m)),.one (.v (.int .i64 2))] (roM [])).al []) (fun u=>u=.int .i64 (ofE m 2))=some qs∧∀ q∈qs,q:=
 ⟨[Value.int .i64 (ofE m 2)=Value.int .i64 (ofE m 2)],by kernel_rfl,mcons rfl mnil⟩
theorem mof_k3 (m:Int):∃ qs,wayV ((runFn (⟨Try.prog,[],[],dkHo,Id'.one,60⟩:Sy Td) [] Try.f107 [.one (.v (.int .u16 m)),.one (.v (.int .i64 3))] (roM [])).al []) (fun u=>u=.int .i64 (ofE m 3))=some qs∧∀ q∈qs,q:=
 ⟨[Value.int .i64 (ofE m 3)=Value.int .i64 (ofE m 3)],by kernel_rfl,mcons rfl mnil⟩
theorem mof_k4 (m:Int):∃ qs,wayV ((runFn (⟨Try.prog,[],[],dkHo,Id'.one,60⟩:Sy Td) [] Try.f107 [.one (.v (.int .u16 m)),.one (.v (.int .i64 4))] (roM [])).al []) (fun u=>u=.int .i64 (ofE m 4))=some qs∧∀ q∈qs,q:=
 ⟨[Value.int .i64 (ofE m 4)=Value.int .i64 (ofE m 4)],by kernel_rfl,mcons rfl mnil⟩
theorem mof_k5 (m:Int):∃ qs,wayV ((runFn (⟨Try.prog,[],[],dkHo,Id'.one,60⟩:Sy Td) [] Try.f107 [.one (.v (.int .u16 m)),.one (.v (.int .i64 5))] (roM [])).al []) (fun u=>u=.int .i64 (ofE m 5))=some qs∧∀ q∈qs,q:=
 ⟨[Value.int .i64 (ofE m 5)=Value.int .i64 (ofE m 5)],by kernel_rfl,mcons rfl mnil⟩
theorem mof_k6 (m:Int):∃ qs,wayV ((runFn (⟨Try.prog,[],[],dkHo,Id'.one,60⟩:Sy Td) [] Try.f107 [.one (.v (.int .u16 m)),.one (.v (.int .i64 6))] (roM [])).al []) (fun u=>u=.int .i64 (ofE m 6))=some qs∧∀ q∈qs,q:=
 ⟨[Value.int .i64 (ofE m 6)=Value.int .i64 (ofE m 6)],by kernel_rfl,mcons rfl mnil⟩
theorem mof_k7 (m:Int):∃ qs,wayV ((runFn (⟨Try.prog,[],[],dkHo,Id'.one,60⟩:Sy Td) [] Try.f107 [.one (.v (.int .u16 m)),.one (.v (.int .i64 7))] (roM [])).al []) (fun u=>u=.int .i64 (ofE m 7))=some qs∧∀ q∈qs,q:=
 ⟨[Value.int .i64 (ofE m 7)=Value.int .i64 (ofE m 7)],by kernel_rfl,mcons rfl mnil⟩
def C_mof:CtrV Td:=fun us sub=>match us,sub with
 |[.one (.v (.int .u16 m)),.one (.v (.int .i64 c))],[]=>some ([0≤c∧c<8],.int .i64 (ofE m c))
 |_,_=>none
theorem C_mof_ok:CtrVOk Try.prog Id' 107 C_mof:=by
 intro us sub ps x h hp w e vs hM ha
 unfold C_mof at h
 split at h
 ·rename_i m c
  simp only [Option.some.injEq,Prod.mk.injEq] at h
  obtain ⟨rfl,rfl⟩:=h
  have hc:=hp _ (List.mem_cons_self ..)
  have hcc:c=0∨c=1∨c=2∨c=3∨c=4∨c=5∨c=6∨c=7:=by omega
  rcases hcc with rfl|rfl|rfl|rfl|rfl|rfl|rfl|rfl
  ·exact ctrv_way (I:=Id') (fun (W0:World) (G:Nat→Prop)=>SyOk.mk2 Try.mixed dkHo_ok (FnsR.nil) EqsOk.nil) rfl Try.func107 (by kernel_rfl) (fun W0 G=>LpsOk.nil _) (cs:=[]) (by kernel_rfl) (mof_k0 m) w e vs hM ha
  ·exact ctrv_way (I:=Id') (fun (W0:World) (G:Nat→Prop)=>SyOk.mk2 Try.mixed dkHo_ok (FnsR.nil) EqsOk.nil) rfl Try.func107 (by kernel_rfl) (fun W0 G=>LpsOk.nil _) (cs:=[]) (by kernel_rfl) (mof_k1 m) w e vs hM ha
  ·exact ctrv_way (I:=Id') (fun (W0:World) (G:Nat→Prop)=>SyOk.mk2 Try.mixed dkHo_ok (FnsR.nil) EqsOk.nil) rfl Try.func107 (by kernel_rfl) (fun W0 G=>LpsOk.nil _) (cs:=[]) (by kernel_rfl) (mof_k2 m) w e vs hM ha
  ·exact ctrv_way (I:=Id') (fun (W0:World) (G:Nat→Prop)=>SyOk.mk2 Try.mixed dkHo_ok (FnsR.nil) EqsOk.nil) rfl Try.func107 (by kernel_rfl) (fun W0 G=>LpsOk.nil _) (cs:=[]) (by kernel_rfl) (mof_k3 m) w e vs hM ha
  ·exact ctrv_way (I:=Id') (fun (W0:World) (G:Nat→Prop)=>SyOk.mk2 Try.mixed dkHo_ok (FnsR.nil) EqsOk.nil) rfl Try.func107 (by kernel_rfl) (fun W0 G=>LpsOk.nil _) (cs:=[]) (by kernel_rfl) (mof_k4 m) w e vs hM ha
  ·exact ctrv_way (I:=Id') (fun (W0:World) (G:Nat→Prop)=>SyOk.mk2 Try.mixed dkHo_ok (FnsR.nil) EqsOk.nil) rfl Try.func107 (by kernel_rfl) (fun W0 G=>LpsOk.nil _) (cs:=[]) (by kernel_rfl) (mof_k5 m) w e vs hM ha
  ·exact ctrv_way (I:=Id') (fun (W0:World) (G:Nat→Prop)=>SyOk.mk2 Try.mixed dkHo_ok (FnsR.nil) EqsOk.nil) rfl Try.func107 (by kernel_rfl) (fun W0 G=>LpsOk.nil _) (cs:=[]) (by kernel_rfl) (mof_k6 m) w e vs hM ha
  ·exact ctrv_way (I:=Id') (fun (W0:World) (G:Nat→Prop)=>SyOk.mk2 Try.mixed dkHo_ok (FnsR.nil) EqsOk.nil) rfl Try.func107 (by kernel_rfl) (fun W0 G=>LpsOk.nil _) (cs:=[]) (by kernel_rfl) (mof_k7 m) w e vs hM ha
 ·cases h
theorem R_mof:RowOk Try.prog Id' hardD 107 (ctrV C_mof hardD):=ctrV_ok Try.call107 C_mof_ok
theorem mwi_k0 (m x:Int):∃ qs,wayV ((runFn (⟨Try.prog,[],[],dkHo,Id'.one,60⟩:Sy Td) [] Try.f101 [.one (.v (.int .u16 m)),.one (.v (.int .i64 0)),.one (.v (.int .i64 x))] (roM [])).al []) (fun u=>u=.int .u16 (wiE m 0 x))=some qs∧∀ q∈qs,q:=
 ⟨[Value.int .u16 (wiE m 0 x)=Value.int .u16 (wiE m 0 x)],by kernel_rfl,mcons rfl mnil⟩
theorem mwi_k1 (m x:Int):∃ qs,wayV ((runFn (⟨Try.prog,[],[],dkHo,Id'.one,60⟩:Sy Td) [] Try.f101 [.one (.v (.int .u16 m)),.one (.v (.int .i64 1)),.one (.v (.int .i64 x))] (roM [])).al []) (fun u=>u=.int .u16 (wiE m 1 x))=some qs∧∀ q∈qs,q:=
 ⟨[Value.int .u16 (wiE m 1 x)=Value.int .u16 (wiE m 1 x)],by kernel_rfl,mcons rfl mnil⟩
theorem mwi_k2 (m x:Int):∃ qs,wayV ((runFn (⟨Try.prog,[],[],dkHo,Id'.one,60⟩:Sy Td) [] Try.f101 [.one (.v (.int .u16 m)),.one (.v (.int .i64 2)),.one (.v (.int .i64 x))] (roM [])).al []) (fun u=>u=.int .u16 (wiE m 2 x))=some qs∧∀ q∈qs,q:=
 ⟨[Value.int .u16 (wiE m 2 x)=Value.int .u16 (wiE m 2 x)],by kernel_rfl,mcons rfl mnil⟩
theorem mwi_k3 (m x:Int):∃ qs,wayV ((runFn (⟨Try.prog,[],[],dkHo,Id'.one,60⟩:Sy Td) [] Try.f101 [.one (.v (.int .u16 m)),.one (.v (.int .i64 3)),.one (.v (.int .i64 x))] (roM [])).al []) (fun u=>u=.int .u16 (wiE m 3 x))=some qs∧∀ q∈qs,q:=
 ⟨[Value.int .u16 (wiE m 3 x)=Value.int .u16 (wiE m 3 x)],by kernel_rfl,mcons rfl mnil⟩
theorem mwi_k4 (m x:Int):∃ qs,wayV ((runFn (⟨Try.prog,[],[],dkHo,Id'.one,60⟩:Sy Td) [] Try.f101 [.one (.v (.int .u16 m)),.one (.v (.int .i64 4)),.one (.v (.int .i64 x))] (roM [])).al []) (fun u=>u=.int .u16 (wiE m 4 x))=some qs∧∀ q∈qs,q:=
 ⟨[Value.int .u16 (wiE m 4 x)=Value.int .u16 (wiE m 4 x)],by kernel_rfl,mcons rfl mnil⟩
theorem mwi_k5 (m x:Int):∃ qs,wayV ((runFn (⟨Try.prog,[],[],dkHo,Id'.one,60⟩:Sy Td) [] Try.f101 [.one (.v (.int .u16 m)),.one (.v (.int .i64 5)),.one (.v (.int .i64 x))] (roM [])).al []) (fun u=>u=.int .u16 (wiE m 5 x))=some qs∧∀ q∈qs,q:=
 ⟨[Value.int .u16 (wiE m 5 x)=Value.int .u16 (wiE m 5 x)],by kernel_rfl,mcons rfl mnil⟩
theorem mwi_k6 (m x:Int):∃ qs,wayV ((runFn (⟨Try.prog,[],[],dkHo,Id'.one,60⟩:Sy Td) [] Try.f101 [.one (.v (.int .u16 m)),.one (.v (.int .i64 6)),.one (.v (.int .i64 x))] (roM [])).al []) (fun u=>u=.int .u16 (wiE m 6 x))=some qs∧∀ q∈qs,q:=
 ⟨[Value.int .u16 (wiE m 6 x)=Value.int .u16 (wiE m 6 x)],by kernel_rfl,mcons rfl mnil⟩
theorem mwi_k7 (m x:Int):∃ qs,wayV ((runFn (⟨Try.prog,[],[],dkHo,Id'.one,60⟩:Sy Td) [] Try.f101 [.one (.v (.int .u16 m)),.one (.v (.int .i64 7)),.one (.v (.int .i64 x))] (roM [])).al []) (fun u=>u=.int .u16 (wiE m 7 x))=some qs∧∀ q∈qs,q:=
 ⟨[Value.int .u16 (wiE m 7 x)=Value.int .u16 (wiE m 7 x)],by kernel_rfl,mcons rfl mnil⟩
def C_mwi:CtrV Td:=fun us sub=>match us,sub with
 |[.one (.v (.int .u16 m)),.one (.v (.int .i64 c)),.one (.v (.int .i64 x))],[]=>some ([0≤c∧c<8],.int .u16 (wiE m c x))
 |_,_=>none
theorem C_mwi_ok:CtrVOk Try.prog Id' 101 C_mwi:=by
 intro us sub ps x h hp w e vs hM ha
 unfold C_mwi at h
 split at h
 ·rename_i m c x
  simp only [Option.some.injEq,Prod.mk.injEq] at h
  obtain ⟨rfl,rfl⟩:=h
  have hc:=hp _ (List.mem_cons_self ..)
  have hcc:c=0∨c=1∨c=2∨c=3∨c=4∨c=5∨c=6∨c=7:=by omega
  rcases hcc with rfl|rfl|rfl|rfl|rfl|rfl|rfl|rfl
  ·exact ctrv_way (I:=Id') (fun (W0:World) (G:Nat→Prop)=>SyOk.mk2 Try.mixed dkHo_ok (FnsR.nil) EqsOk.nil) rfl Try.func101 (by kernel_rfl) (fun W0 G=>LpsOk.nil _) (cs:=[]) (by kernel_rfl) (mwi_k0 m x) w e vs hM ha
  ·exact ctrv_way (I:=Id') (fun (W0:World) (G:Nat→Prop)=>SyOk.mk2 Try.mixed dkHo_ok (FnsR.nil) EqsOk.nil) rfl Try.func101 (by kernel_rfl) (fun W0 G=>LpsOk.nil _) (cs:=[]) (by kernel_rfl) (mwi_k1 m x) w e vs hM ha
  ·exact ctrv_way (I:=Id') (fun (W0:World) (G:Nat→Prop)=>SyOk.mk2 Try.mixed dkHo_ok (FnsR.nil) EqsOk.nil) rfl Try.func101 (by kernel_rfl) (fun W0 G=>LpsOk.nil _) (cs:=[]) (by kernel_rfl) (mwi_k2 m x) w e vs hM ha
  ·exact ctrv_way (I:=Id') (fun (W0:World) (G:Nat→Prop)=>SyOk.mk2 Try.mixed dkHo_ok (FnsR.nil) EqsOk.nil) rfl Try.func101 (by kernel_rfl) (fun W0 G=>LpsOk.nil _) (cs:=[]) (by kernel_rfl) (mwi_k3 m x) w e vs hM ha
  ·exact ctrv_way (I:=Id') (fun (W0:World) (G:Nat→Prop)=>SyOk.mk2 Try.mixed dkHo_ok (FnsR.nil) EqsOk.nil) rfl Try.func101 (by kernel_rfl) (fun W0 G=>LpsOk.nil _) (cs:=[]) (by kernel_rfl) (mwi_k4 m x) w e vs hM ha
  ·exact ctrv_way (I:=Id') (fun (W0:World) (G:Nat→Prop)=>SyOk.mk2 Try.mixed dkHo_ok (FnsR.nil) EqsOk.nil) rfl Try.func101 (by kernel_rfl) (fun W0 G=>LpsOk.nil _) (cs:=[]) (by kernel_rfl) (mwi_k5 m x) w e vs hM ha
  ·exact ctrv_way (I:=Id') (fun (W0:World) (G:Nat→Prop)=>SyOk.mk2 Try.mixed dkHo_ok (FnsR.nil) EqsOk.nil) rfl Try.func101 (by kernel_rfl) (fun W0 G=>LpsOk.nil _) (cs:=[]) (by kernel_rfl) (mwi_k6 m x) w e vs hM ha
  ·exact ctrv_way (I:=Id') (fun (W0:World) (G:Nat→Prop)=>SyOk.mk2 Try.mixed dkHo_ok (FnsR.nil) EqsOk.nil) rfl Try.func101 (by kernel_rfl) (fun W0 G=>LpsOk.nil _) (cs:=[]) (by kernel_rfl) (mwi_k7 m x) w e vs hM ha
 ·cases h
theorem R_mwi:RowOk Try.prog Id' hardD 101 (ctrV C_mwi hardD):=ctrV_ok Try.call101 C_mwi_ok
theorem din_w0 (c:Int) :∃ qs,wayV ((runFn (⟨Try.prog,[],[],dkHo,Id'.one,60⟩:Sy Td) [] Try.f98 [.one (.v (.int .i64 c))] (roM [])).al []) (fun u=>u=.bool (inE c))=some qs∧∀ q∈qs,q:=
 ⟨[Value.bool (decide (c≥(0:Int))&&decide (c<(8:Int)))=Value.bool (inE c)],by kernel_rfl,(by refine mcons ?_ mnil<;>first|rfl|trivial)⟩
def C_din:CtrV Td:=fun us sub=>match us,sub with
 |[.one (.v (.int .i64 c))],[]=>some ([],.bool (inE c))
 |_,_=>none
theorem C_din_ok:CtrVOk Try.prog Id' 98 C_din:=by
 intro us sub ps x h hp w e vs hM ha
 unfold C_din at h
 split at h
 ·rename_i c
  simp only [Option.some.injEq,Prod.mk.injEq] at h
  obtain ⟨rfl,rfl⟩:=h
  exact ctrv_way (I:=Id') (fun (W0:World) (G:Nat→Prop)=>SyOk.mk2 Try.mixed dkHo_ok (FnsR.nil) EqsOk.nil) rfl Try.func98 (by kernel_rfl) (fun W0 G=>LpsOk.nil _) (cs:=[]) (by kernel_rfl) (din_w0 c ) w e vs hM ha
 ·cases h
theorem R_din:RowOk Try.prog Id' hardD 98 (ctrV C_din hardD):=ctrV_ok Try.call98 C_din_ok
end Go.Proofs.Ytdenmoiaiemokaa
