/- W12. -/
import Derived.Test.YtdenmoiaiemokaaW11p
set_option linter.unusedVariables false
set_option linter.unusedSimpArgs false
namespace Go.Proofs.Ytdenmoiaiemokaa
open Go.RowKit
def isE (nm:ByteArray) (a b c:Int):Bool:=nameB nm&&decide (a>0)&&decide (a<41)&&decide (b≥0)&&decide (b<2147483648)&&decide (c>0)&&decide (c<3)
set_option maxRecDepth 100000 in
theorem ris_w0 (nm:ByteArray) (a b c:Int) (h0:nm.size≤100000):∃ qs,wayO Id' (([]:Mem Td):Mem Td).length [⟨.dead,true⟩] (svV (.bool (isE nm a b c))) ((runFn (⟨Try.prog,[(175,ctrF Id' C_nis hardD)],[],dkHo,Id'.one,60⟩:Sy Td) [] Try.f155 [.agg [.v (.string nm),.v (.int .i64 a),.v (.int .i64 b),.v (.int .i64 c)]] ([]:Mem Td)).al [])=some qs∧∀ q∈qs,q:=
 ⟨[nm.size≤(100000:Nat),Value.bool (nameB nm&&decide (a>(0:Int))&&decide (a<(41:Int))&&decide (b≥(0:Int))&&decide (b<(2147483648:Int))&&decide (c>(0:Int))&&decide (c<(3:Int)))=Value.bool (isE nm a b c)],by kernel_rfl,(by refine mcons ?_ (mcons ?_ mnil)<;>first|rfl|exact h0|trivial)⟩
def C_ris:Ctr Td:=fun us sub=>match us,sub with
 |[.agg [.v (.string nm),.v (.int .i64 a),.v (.int .i64 b),.v (.int .i64 c)]],[]=>some ([nm.size≤100000],svV (.bool (isE nm a b c)),[⟨.dead,true⟩])
 |_,_=>none
set_option maxRecDepth 100000 in
theorem C_ris_ok:CtrOk Try.prog Id' 155 C_ris:=by
 intro us sub ps x sm h hp w e vs hM ha
 unfold C_ris at h
 split at h
 ·rename_i nm a b c
  simp only [Option.some.injEq,Prod.mk.injEq] at h
  obtain ⟨rfl,rfl,rfl⟩:=h
  exact ctr_way (I:=Id') (fun (W0:World) (G:Nat→Prop)=>SyOk.mk2 Try.mixed dkHo_ok (FnsR.cons (R_nis) (FnsR.nil)) EqsOk.nil) rfl Try.func155 (by kernel_rfl) (fun _ _=>LpsOk.nil _) (cs:=[]) (by kernel_rfl) (ris_w0 nm a b c (hp _ (List.mem_cons_self ..))) w e vs hM ha
 ·cases h
theorem R_ris:RowOk Try.prog Id' hardD 155 (ctrF Id' C_ris hardD):=ctrF_ok Try.call155 C_ris_ok
set_option maxRecDepth 100000 in
theorem dright_w0 (nm:ByteArray) (a b c:Int) (r:Bool) (h0:((bif nameB nm then (0:Int) else (9:Int))==(0:Int)&&decide (a≥(1:Int))&&decide (a≤(40:Int))&&decide (b≥(0:Int))&&decide (b≤(2147483647:Int))&&(c==(1:Int)||c==(2:Int)))=r):∃ qs,wayO Id' (([]:Mem Td):Mem Td).length [⟨.dead,true⟩] (svV (.bool r)) ((runFn (⟨Try.prog,[F_nmck],[],dkHo,Id'.one,60⟩:Sy Td) [] Try.f118 [.agg [.v (.string nm),.v (.int .i64 a),.v (.int .i64 b),.v (.int .i64 c)]] ([]:Mem Td)).al [])=some qs∧∀ q∈qs,q:=
 ⟨[Value.bool ((bif nameB nm then (0:Int) else (9:Int))==(0:Int)&&decide (a≥(1:Int))&&decide (a≤(40:Int))&&decide (b≥(0:Int))&&decide (b≤(2147483647:Int))&&(c==(1:Int)||c==(2:Int)))=Value.bool r],by kernel_rfl,(by refine mcons ?_ mnil<;>first|rfl|exact h0|trivial|(exact congrArg _ h0))⟩
theorem right_is (nm:ByteArray) (a b c:Int):((bif nameB nm then (0:Int) else (9:Int))==(0:Int)&&decide (a≥(1:Int))&&decide (a≤(40:Int))&&decide (b≥(0:Int))&&decide (b≤(2147483647:Int))&&(c==(1:Int)||c==(2:Int)))=isE nm a b c:=by
 unfold isE
 rw [Bool.eq_iff_iff]
 cases nameB nm<;>simp<;>omega
def C_dright:Ctr Td:=fun us sub=>match us,sub with
 |[.agg [.v (.string nm),.v (.int .i64 a),.v (.int .i64 b),.v (.int .i64 c)]],[]=>some ([],svV (.bool (isE nm a b c)),[⟨.dead,true⟩])
 |_,_=>none
set_option maxRecDepth 100000 in
theorem C_dright_ok:CtrOk Try.prog Id' 118 C_dright:=by
 intro us sub ps x sm h hp w e vs hM ha
 unfold C_dright at h
 split at h
 ·rename_i nm a b c
  simp only [Option.some.injEq,Prod.mk.injEq] at h
  obtain ⟨rfl,rfl,rfl⟩:=h
  exact ctr_way (I:=Id') (fun (W0:World) (G:Nat→Prop)=>SyOk.mk2 Try.mixed dkHo_ok (FnsR.cons (F_nmck_ok) (FnsR.nil)) EqsOk.nil) rfl Try.func118 (by kernel_rfl) (fun _ _=>LpsOk.nil _) (cs:=[]) (by kernel_rfl) (dright_w0 nm a b c _ (right_is nm a b c)) w e vs hM ha
 ·cases h
theorem R_dright:RowOk Try.prog Id' hardD 118 (ctrF Id' C_dright hardD):=ctrF_ok Try.call118 C_dright_ok
end Go.Proofs.Ytdenmoiaiemokaa
