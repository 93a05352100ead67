/- J8. -/
import Derived.Test.YtiiekgcjilelpaaJ9p
import Derived.Test.YtiiekgcjilelpaaJ2p
set_option maxRecDepth 100000
set_option linter.unusedSimpArgs false
set_option linter.unusedVariables false
namespace Go.Proofs.Ytiiekgcjilelpaa
open Go.RowKit
def wiI (x a b:Int):Int:=bif decide (x<a) then a else bif decide (x>b) then b else x
theorem wi_w0 (x a b:Int) (h0:decide (x<a)=true):∃ qs,wayV ((runFn (⟨Try.prog,[],[],dkHo,Id'.one,60⟩:Sy Td) [] Try.f32 [.one (.v (.int .i64 x)),.one (.v (.int .i64 a)),.one (.v (.int .i64 b))] (roM [])).al [true]) (fun u=>u=.int .i64 (wiI x a b))=some qs∧∀ q∈qs,q:=
 ⟨[Value.int IntKind.i64 a=Value.int IntKind.i64 (wiI x a b),decide (x<a)=true],by kernel_rfl,(by refine mcons ?_ (mcons ?_ mnil)<;>first|(with_reducible assumption)|(with_reducible rfl)|rfl|exact h0|trivial|(exact congrArg (Value.int .i64) (show _=wiI x a b by rw [wiI,h0,h1];rfl))|(exact congrArg (Value.int .i64) (show _=wiI x a b by rw [wiI,h0];rfl)))⟩
theorem wi_w1 (x a b:Int) (h0:decide (x<a)=false) (h1:decide (x>b)=true):∃ qs,wayV ((runFn (⟨Try.prog,[],[],dkHo,Id'.one,60⟩:Sy Td) [] Try.f32 [.one (.v (.int .i64 x)),.one (.v (.int .i64 a)),.one (.v (.int .i64 b))] (roM [])).al [false,true]) (fun u=>u=.int .i64 (wiI x a b))=some qs∧∀ q∈qs,q:=
 ⟨[Value.int IntKind.i64 b=Value.int IntKind.i64 (wiI x a b),decide (x<a)=false,decide (x>b)=true],by kernel_rfl,(by refine mcons ?_ (mcons ?_ (mcons ?_ mnil))<;>first|(with_reducible assumption)|(with_reducible rfl)|rfl|exact h0|exact h1|trivial|(exact congrArg (Value.int .i64) (show _=wiI x a b by rw [wiI,h0,h1];rfl))|(exact congrArg (Value.int .i64) (show _=wiI x a b by rw [wiI,h0];rfl)))⟩
theorem wi_w2 (x a b:Int) (h0:decide (x<a)=false) (h1:decide (x>b)=false):∃ qs,wayV ((runFn (⟨Try.prog,[],[],dkHo,Id'.one,60⟩:Sy Td) [] Try.f32 [.one (.v (.int .i64 x)),.one (.v (.int .i64 a)),.one (.v (.int .i64 b))] (roM [])).al [false,false]) (fun u=>u=.int .i64 (wiI x a b))=some qs∧∀ q∈qs,q:=
 ⟨[Value.int IntKind.i64 x=Value.int IntKind.i64 (wiI x a b),decide (x<a)=false,decide (x>b)=false],by kernel_rfl,(by refine mcons ?_ (mcons ?_ (mcons ?_ mnil))<;>first|(with_reducible assumption)|(with_reducible rfl)|rfl|exact h0|exact h1|trivial|(exact congrArg (Value.int .i64) (show _=wiI x a b by rw [wiI,h0,h1];rfl))|(exact congrArg (Value.int .i64) (show _=wiI x a b by rw [wiI,h0];rfl)))⟩
def C_wi:CtrV Td:=fun us sub=>match us,sub with
 |[.one (.v (.int .i64 x)),.one (.v (.int .i64 a)),.one (.v (.int .i64 b))],[]=>some ([],.int .i64 (wiI x a b))
 |_,_=>none
theorem C_wi_ok:CtrVOk Try.prog Id' 32 C_wi:=by
 intro us sub ps x h hp w e vs hM ha
 unfold C_wi at h
 split at h
 ·rename_i x a b
  simp only [Option.some.injEq,Prod.mk.injEq] at h
  obtain ⟨rfl,rfl⟩:=h
  cases h0:decide (x<a) with
  |true=>exact ctrv_way (I:=Id') (fun (W0:World) (G:Nat→Prop)=>SyOk.mk2 Try.mixed dkHo_ok (FnsR.nil) EqsOk.nil) rfl Try.func32 (by kernel_rfl) (fun W0 G=>LpsOk.nil _) (cs:=[true]) (by kernel_rfl) (wi_w0 x a b h0) w e vs hM ha
  |false=>
   cases h1:decide (x>b) with
   |true=>exact ctrv_way (I:=Id') (fun (W0:World) (G:Nat→Prop)=>SyOk.mk2 Try.mixed dkHo_ok (FnsR.nil) EqsOk.nil) rfl Try.func32 (by kernel_rfl) (fun W0 G=>LpsOk.nil _) (cs:=[false,true]) (by kernel_rfl) (wi_w1 x a b h0 h1) w e vs hM ha
   |false=>exact ctrv_way (I:=Id') (fun (W0:World) (G:Nat→Prop)=>SyOk.mk2 Try.mixed dkHo_ok (FnsR.nil) EqsOk.nil) rfl Try.func32 (by kernel_rfl) (fun W0 G=>LpsOk.nil _) (cs:=[false,false]) (by kernel_rfl) (wi_w2 x a b h0 h1) w e vs hM ha
 ·cases h
def C_wiX (r:Int):CtrV Td:=fun us sub=>match us,sub with
 |[.one (.v (.int .i64 x)),.one (.v (.int .i64 a)),.one (.v (.int .i64 b))],[]=>some ([wiI x a b=r],.int .i64 r)
 |_,_=>none
theorem C_wiX_ok (r:Int):CtrVOk Try.prog Id' 32 (C_wiX r):=by
 intro us sub ps x h hp w e vs hM ha
 unfold C_wiX at h
 split at h
 ·rename_i x a b
  simp only [Option.some.injEq,Prod.mk.injEq] at h
  obtain ⟨rfl,rfl⟩:=h
  have h0:wiI x a b=r:=hp _ (List.mem_cons_self ..)
  rw [← h0]
  exact C_wi_ok _ _ _ _ rfl (fun p hp=>by cases hp) w e vs hM ha
 ·cases h
theorem R_wiX (r:Int):RowOk Try.prog Id' hardD 32 (ctrV (C_wiX r) hardD):=ctrV_ok Try.call32 (C_wiX_ok r)
theorem RW_decBig:RowOk Try.prog Id' hardD 38 (ctrF Id' (wkC C_decBig) hardD):=ctrF_ok Try.call38 (wkC_ok C_decBig_ok)
theorem RW_decN:RowOk Try.prog Id' hardD 38 (ctrF Id' (wkC C_decN) hardD):=ctrF_ok Try.call38 (wkC_ok C_decN_ok)
theorem wlA_w0 (n r:Int) (h0:wiI n (2040:Int) (2060:Int)=r) (h1:decide ((↑(List.replicate r.toNat (0:UInt8)).length:Int)>(2048:Int))=true) (h2:(0:Int)≤r∧r≤(1000000:Int)) (h3:(((5:Int)==bif decide (r>(2048:Int)) then (5:Int) else (4:Int))&&Mm.sameR ((Mm.Msg.mk (0:Int) (0:Int) (0:Int) (0:Int) (0:Int) (0:Int) (0:Int) (0:Int) (0:Int) (0:Int) (0:Int) (ByteArray.mk #[]) (ByteArray.mk #[]) (0:Int) (0:Int) (ByteArray.mk #[]) (0:Int) []).wi (ents [])) ((Mm.Msg.mk (0:Int) (0:Int) (0:Int) (0:Int) (0:Int) (0:Int) (0:Int) (0:Int) (0:Int) (0:Int) (0:Int) (ByteArray.mk #[]) (ByteArray.mk #[]) (0:Int) (0:Int) (ByteArray.mk #[]) (0:Int) []).wi (ents [])))=true):∃ qs,wayO Id' ([]:Mem Td).length [] (svV (.bool true)) ((runFn (⟨Try.prog,[(32,ctrV (C_wiX r) hardD),(38,ctrF Id' (wkC C_decBig) hardD),(40,ctrV C_msm hardD),(36,ctrF Id' C_lv17 hardD)],[],dkHo,Id'.one,60⟩:Sy Td) [] Try.f10 [.one (.v (.int .i64 n))] []).al [true])=some qs∧∀ q∈qs,q:=
 ⟨[wiI n (2040:Int) (2060:Int)=r,decide ((↑(List.replicate r.toNat (0:UInt8)).length:Int)>(2048:Int))=true,(En.mk (Ob.us (Th.own (List.replicate r.toNat (0:UInt8)))) true:En Td)=En.mk (Ob.us (Th.own (List.replicate r.toNat (0:UInt8)))) true,r=r,(0:Int)≤r∧r≤(1000000:Int),(((5:Int)==bif decide (r>(2048:Int)) then (5:Int) else (4:Int))&&Mm.sameR ((Mm.Msg.mk (0:Int) (0:Int) (0:Int) (0:Int) (0:Int) (0:Int) (0:Int) (0:Int) (0:Int) (0:Int) (0:Int) (ByteArray.mk #[]) (ByteArray.mk #[]) (0:Int) (0:Int) (ByteArray.mk #[]) (0:Int) []).wi (ents [])) ((Mm.Msg.mk (0:Int) (0:Int) (0:Int) (0:Int) (0:Int) (0:Int) (0:Int) (0:Int) (0:Int) (0:Int) (0:Int) (ByteArray.mk #[]) (ByteArray.mk #[]) (0:Int) (0:Int) (ByteArray.mk #[]) (0:Int) []).wi (ents [])))=true,(((5:Int)==bif decide (r>(2048:Int)) then (5:Int) else (4:Int))&&Mm.sameR ((Mm.Msg.mk (0:Int) (0:Int) (0:Int) (0:Int) (0:Int) (0:Int) (0:Int) (0:Int) (0:Int) (0:Int) (0:Int) (ByteArray.mk #[]) (ByteArray.mk #[]) (0:Int) (0:Int) (ByteArray.mk #[]) (0:Int) []).wi (ents [])) ((Mm.Msg.mk (0:Int) (0:Int) (0:Int) (0:Int) (0:Int) (0:Int) (0:Int) (0:Int) (0:Int) (0:Int) (0:Int) (ByteArray.mk #[]) (ByteArray.mk #[]) (0:Int) (0:Int) (ByteArray.mk #[]) (0:Int) []).wi (ents [])))=true,Value.bool true=Value.bool true],by kernel_rfl,(by refine mcons ?_ (mcons ?_ (mcons ?_ (mcons ?_ (mcons ?_ (mcons ?_ (mcons ?_ (mcons ?_ mnil)))))))<;>first|(with_reducible assumption)|(with_reducible rfl)|rfl|exact h0|exact h1|exact h2|exact h3|trivial)⟩
theorem wlB_w0 (n r:Int) (h0:wiI n (2040:Int) (2060:Int)=r) (h1:decide ((↑(List.replicate r.toNat (0:UInt8)).length:Int)>(2048:Int))=false) (h2:(List.replicate r.toNat (0:UInt8)).length≤(100000:Nat)) (h3:(hTy (RS.new (List.replicate r.toNat (0:UInt8)))==(3:Int))=false) (h4:(hTy (RS.new (List.replicate r.toNat (0:UInt8)))==(1:Int)&&decide (hKd (RS.new (List.replicate r.toNat (0:UInt8)))<(8:Int)))=false) (h5:(hTy (RS.new (List.replicate r.toNat (0:UInt8)))==(1:Int))=false) (h6:(hEr (RS.new (List.replicate r.toNat (0:UInt8)))==(0:Int))=true) (h7:(hKd (RS.new (List.replicate r.toNat (0:UInt8)))==(3:Int))=false) (h8:(hKd (RS.new (List.replicate r.toNat (0:UInt8)))==(4:Int))=false) (h9:(hKd (RS.new (List.replicate r.toNat (0:UInt8)))==(7:Int))=false) (h10:(bif hKd (RS.new (List.replicate r.toNat (0:UInt8)))==(8:Int) then hKd (RS.new (List.replicate r.toNat (0:UInt8)))==(8:Int) else bif hKd (RS.new (List.replicate r.toNat (0:UInt8)))==(13:Int) then hKd (RS.new (List.replicate r.toNat (0:UInt8)))==(13:Int) else bif hKd (RS.new (List.replicate r.toNat (0:UInt8)))==(10:Int) then hKd (RS.new (List.replicate r.toNat (0:UInt8)))==(10:Int) else hKd (RS.new (List.replicate r.toNat (0:UInt8)))==(11:Int))=false) (h11:(hKd (RS.new (List.replicate r.toNat (0:UInt8)))==(9:Int))=false) (h12:(Mm.checkI (Mm.Msg.mk (hTy (RS.new (List.replicate r.toNat (0:UInt8)))) (hCl (RS.new (List.replicate r.toNat (0:UInt8)))) (hSs (RS.new (List.replicate r.toNat (0:UInt8)))) (hSq (RS.new (List.replicate r.toNat (0:UInt8)))) (hBo (RS.new (List.replicate r.toNat (0:UInt8)))) (hKd (RS.new (List.replicate r.toNat (0:UInt8)))) (hEr (RS.new (List.replicate r.toNat (0:UInt8)))) (0:Int) (0:Int) (0:Int) (0:Int) (ByteArray.mk #[]) (ByteArray.mk #[]) (0:Int) (0:Int) (ByteArray.mk #[]) (0:Int) (ents [])) != (0:Int))=true) (h13:(endI (hdR (RS.new (List.replicate r.toNat (0:UInt8)))).l (hdR (RS.new (List.replicate r.toNat (0:UInt8)))).at' (hdR (RS.new (List.replicate r.toNat (0:UInt8)))).err != (0:Int)||Mm.checkI (Mm.Msg.mk (hTy (RS.new (List.replicate r.toNat (0:UInt8)))) (hCl (RS.new (List.replicate r.toNat (0:UInt8)))) (hSs (RS.new (List.replicate r.toNat (0:UInt8)))) (hSq (RS.new (List.replicate r.toNat (0:UInt8)))) (hBo (RS.new (List.replicate r.toNat (0:UInt8)))) (hKd (RS.new (List.replicate r.toNat (0:UInt8)))) (hEr (RS.new (List.replicate r.toNat (0:UInt8)))) (0:Int) (0:Int) (0:Int) (0:Int) (ByteArray.mk #[]) (ByteArray.mk #[]) (0:Int) (0:Int) (ByteArray.mk #[]) (0:Int) (ents [])) != (0:Int)||!decide (List.replicate r.toNat (0:UInt8)=[]))=true) (h14:(0:Int)≤r∧r≤(1000000:Int)) (h15:(((4:Int)==bif decide (r>(2048:Int)) then (5:Int) else (4:Int))&&Mm.sameR ((Mm.Msg.mk (0:Int) (0:Int) (0:Int) (0:Int) (0:Int) (0:Int) (0:Int) (0:Int) (0:Int) (0:Int) (0:Int) (ByteArray.mk #[]) (ByteArray.mk #[]) (0:Int) (0:Int) (ByteArray.mk #[]) (0:Int) []).wi (ents [])) ((Mm.Msg.mk (0:Int) (0:Int) (0:Int) (0:Int) (0:Int) (0:Int) (0:Int) (0:Int) (0:Int) (0:Int) (0:Int) (ByteArray.mk #[]) (ByteArray.mk #[]) (0:Int) (0:Int) (ByteArray.mk #[]) (0:Int) []).wi (ents [])))=true):∃ qs,wayO Id' ([]:Mem Td).length [] (svV (.bool true)) ((runFn (⟨Try.prog,[(32,ctrV (C_wiX r) hardD),(38,ctrF Id' (wkC C_decN) hardD),(40,ctrV C_msm hardD),(36,ctrF Id' C_lv17 hardD)],[],dkHo,Id'.one,60⟩:Sy Td) [] Try.f10 [.one (.v (.int .i64 n))] []).al [true])=some qs∧∀ q∈qs,q:=
 ⟨[wiI n (2040:Int) (2060:Int)=r,decide ((↑(List.replicate r.toNat (0:UInt8)).length:Int)>(2048:Int))=false,(List.replicate r.toNat (0:UInt8)).length≤(100000:Nat),(hTy (RS.new (List.replicate r.toNat (0:UInt8)))==(3:Int))=false,(hTy (RS.new (List.replicate r.toNat (0:UInt8)))==(1:Int)&&decide (hKd (RS.new (List.replicate r.toNat (0:UInt8)))<(8:Int)))=false,(hTy (RS.new (List.replicate r.toNat (0:UInt8)))==(1:Int))=false,(hEr (RS.new (List.replicate r.toNat (0:UInt8)))==(0:Int))=true,(hKd (RS.new (List.replicate r.toNat (0:UInt8)))==(3:Int))=false,(hKd (RS.new (List.replicate r.toNat (0:UInt8)))==(4:Int))=false,(hKd (RS.new (List.replicate r.toNat (0:UInt8)))==(7:Int))=false,(bif hKd (RS.new (List.replicate r.toNat (0:UInt8)))==(8:Int) then hKd (RS.new (List.replicate r.toNat (0:UInt8)))==(8:Int) else bif hKd (RS.new (List.replicate r.toNat (0:UInt8)))==(13:Int) then hKd (RS.new (List.replicate r.toNat (0:UInt8)))==(13:Int) else bif hKd (RS.new (List.replicate r.toNat (0:UInt8)))==(10:Int) then hKd (RS.new (List.replicate r.toNat (0:UInt8)))==(10:Int) else hKd (RS.new (List.replicate r.toNat (0:UInt8)))==(11:Int))=false,(hKd (RS.new (List.replicate r.toNat (0:UInt8)))==(9:Int))=false,(Mm.checkI (Mm.Msg.mk (hTy (RS.new (List.replicate r.toNat (0:UInt8)))) (hCl (RS.new (List.replicate r.toNat (0:UInt8)))) (hSs (RS.new (List.replicate r.toNat (0:UInt8)))) (hSq (RS.new (List.replicate r.toNat (0:UInt8)))) (hBo (RS.new (List.replicate r.toNat (0:UInt8)))) (hKd (RS.new (List.replicate r.toNat (0:UInt8)))) (hEr (RS.new (List.replicate r.toNat (0:UInt8)))) (0:Int) (0:Int) (0:Int) (0:Int) (ByteArray.mk #[]) (ByteArray.mk #[]) (0:Int) (0:Int) (ByteArray.mk #[]) (0:Int) (ents [])) != (0:Int))=true,(endI (hdR (RS.new (List.replicate r.toNat (0:UInt8)))).l (hdR (RS.new (List.replicate r.toNat (0:UInt8)))).at' (hdR (RS.new (List.replicate r.toNat (0:UInt8)))).err != (0:Int)||Mm.checkI (Mm.Msg.mk (hTy (RS.new (List.replicate r.toNat (0:UInt8)))) (hCl (RS.new (List.replicate r.toNat (0:UInt8)))) (hSs (RS.new (List.replicate r.toNat (0:UInt8)))) (hSq (RS.new (List.replicate r.toNat (0:UInt8)))) (hBo (RS.new (List.replicate r.toNat (0:UInt8)))) (hKd (RS.new (List.replicate r.toNat (0:UInt8)))) (hEr (RS.new (List.replicate r.toNat (0:UInt8)))) (0:Int) (0:Int) (0:Int) (0:Int) (ByteArray.mk #[]) (ByteArray.mk #[]) (0:Int) (0:Int) (ByteArray.mk #[]) (0:Int) (ents [])) != (0:Int)||!decide (List.replicate r.toNat (0:UInt8)=[]))=true,(En.mk (Ob.us (Th.own (List.replicate r.toNat (0:UInt8)))) true:En Td)=En.mk (Ob.us (Th.own (List.replicate r.toNat (0:UInt8)))) true,r=r,(0:Int)≤r∧r≤(1000000:Int),(((4:Int)==bif decide (r>(2048:Int)) then (5:Int) else (4:Int))&&Mm.sameR ((Mm.Msg.mk (0:Int) (0:Int) (0:Int) (0:Int) (0:Int) (0:Int) (0:Int) (0:Int) (0:Int) (0:Int) (0:Int) (ByteArray.mk #[]) (ByteArray.mk #[]) (0:Int) (0:Int) (ByteArray.mk #[]) (0:Int) []).wi (ents [])) ((Mm.Msg.mk (0:Int) (0:Int) (0:Int) (0:Int) (0:Int) (0:Int) (0:Int) (0:Int) (0:Int) (0:Int) (0:Int) (ByteArray.mk #[]) (ByteArray.mk #[]) (0:Int) (0:Int) (ByteArray.mk #[]) (0:Int) []).wi (ents [])))=true,(((4:Int)==bif decide (r>(2048:Int)) then (5:Int) else (4:Int))&&Mm.sameR ((Mm.Msg.mk (0:Int) (0:Int) (0:Int) (0:Int) (0:Int) (0:Int) (0:Int) (0:Int) (0:Int) (0:Int) (0:Int) (ByteArray.mk #[]) (ByteArray.mk #[]) (0:Int) (0:Int) (ByteArray.mk #[]) (0:Int) []).wi (ents [])) ((Mm.Msg.mk (0:Int) (0:Int) (0:Int) (0:Int) (0:Int) (0:Int) (0:Int) (0:Int) (0:Int) (0:Int) (0:Int) (ByteArray.mk #[]) (ByteArray.mk #[]) (0:Int) (0:Int) (ByteArray.mk #[]) (0:Int) []).wi (ents [])))=true,Value.bool true=Value.bool true],by kernel_rfl,(by refine mcons ?_ (mcons ?_ (mcons ?_ (mcons ?_ (mcons ?_ (mcons ?_ (mcons ?_ (mcons ?_ (mcons ?_ (mcons ?_ (mcons ?_ (mcons ?_ (mcons ?_ (mcons ?_ (mcons ?_ (mcons ?_ (mcons ?_ (mcons ?_ (mcons ?_ (mcons ?_ mnil)))))))))))))))))))<;>first|(with_reducible assumption)|(with_reducible rfl)|rfl|exact h0|exact h1|exact h2|exact h3|exact h4|exact h5|exact h6|exact h7|exact h8|exact h9|exact h10|exact h11|exact h12|exact h13|exact h14|exact h15|trivial)⟩
theorem wi_in (n:Int):2040≤wiI n 2040 2060∧wiI n 2040 2060≤2060:=by
 unfold wiI
 cases h:decide (n<2040) with
 |true=>simp only [cond_true];omega
 |false=>
  cases h1:decide (n>2060) with
  |true=>simp only [cond_true,cond_false];omega
  |false=>
   have:=of_decide_eq_false h
   have:=of_decide_eq_false h1
   simp only [cond_false];omega
theorem wlong_c (n:Int):∀ w e vs,MemOk w (FootOf Id' w e []) Id' w e []→AllC e [.one (.v (.int .i64 n))] vs→
  Calls Try.prog 10 vs.toArray w (fun y w'=>∃ v e',y=.returned v∧Grows e e'∧(svV (.bool true)).is e' v∧MemOk w (FootOf Id' w e []) Id' w' e' []):=by
 intro w e vs hM ha
 obtain ⟨r,hr⟩:∃ r,wiI n 2040 2060=r:=⟨_,rfl⟩
 have hin:=wi_in n
 rw [hr] at hin
 have hrr:(0:Int)≤r∧r≤1000000:=by omega
 have hlen:(List.replicate r.toNat (0:UInt8)).length=r.toNat:=List.length_replicate
 cases hb:decide (r>2048) with
 |true=>
  have h1:decide (((List.replicate r.toNat (0:UInt8)).length:Int)>2048)=true:=by
   rw [hlen]
   have:=of_decide_eq_true hb
   exact decide_eq_true (by omega)
  exact ctr_way (I:=Id') (fun (W0:World) (G:Nat→Prop)=>SyOk.mk2 Try.mixed dkHo_ok (FnsR.cons (R_wiX r) (FnsR.cons (RW_decBig) (FnsR.cons (R_msm) (FnsR.cons (R_lv17) (FnsR.nil))))) EqsOk.nil) rfl Try.func10 (by kernel_rfl) (fun W0 G=>LpsOk.nil _) (cs:=[true]) (by kernel_rfl) (wlA_w0 n r hr h1 hrr (by rw [hb];exact z_same)) w e vs hM ha
 |false=>
  have hb0:=of_decide_eq_false hb
  have h1:decide (((List.replicate r.toNat (0:UInt8)).length:Int)>2048)=false:=by
   rw [hlen]
   exact decide_eq_false (by omega)
  obtain ⟨z1,z2,z3,z4,z5,z6,z7⟩:=z_head (n:=r.toNat) (by omega)
  exact ctr_way (I:=Id') (fun (W0:World) (G:Nat→Prop)=>SyOk.mk2 Try.mixed dkHo_ok (FnsR.cons (R_wiX r) (FnsR.cons (RW_decN) (FnsR.cons (R_msm) (FnsR.cons (R_lv17) (FnsR.nil))))) EqsOk.nil) rfl Try.func10 (by kernel_rfl) (fun W0 G=>LpsOk.nil _) (cs:=[true]) (by kernel_rfl) (wlB_w0 n r hr h1 (by rw [hlen];omega) (by rw [z1];rfl) (by rw [z1];rfl) (by rw [z1];rfl) (by rw [z7];rfl) (by rw [z6];rfl) (by rw [z6];rfl) (by rw [z6];rfl) (by rw [z6];rfl) (by rw [z6];rfl) (by rw [z1,z2,z3,z4,z5,z6,z7];exact z_check) (by rw [z1,z2,z3,z4,z5,z6,z7,z_check,Bool.or_true,Bool.true_or]) hrr (by rw [hb];exact z_same)) w e vs hM ha
end Go.Proofs.Ytiiekgcjilelpaa
