/- Z6 Z7. -/
import Derived.Test.YtdenmoiaiemokaaZ5p
set_option linter.unusedVariables false
set_option linter.unusedSimpArgs false
namespace Go.Proofs.Ytdenmoiaiemokaa
open Go.RowKit
theorem tk_w {Q:List (Int×List UInt8)} {i:Int} (h:0≤i∧i.toNat<Q.length) (hL:Q.length≤1000):IntKind.i64.wrap (i+1)=i+1:=IntWalk.i64_in _ (by omega)
theorem tk_b {Q:List (Int×List UInt8)} {i:Int} (h:0≤i∧i.toNat<Q.length):(0:Int)≤(0:Int)∧(0:Int)≤i∧i≤(Q.length:Int):=by omega
theorem tk_c {Q:List (Int×List UInt8)} {i:Int} (h:0≤i∧i.toNat<Q.length) (hL:Q.length≤1000):(List.take (i.toNat - Int.toNat (0:Int)) (List.drop (Int.toNat (0:Int)) Q)).length+((Q.length:Int).toNat - (IntKind.i64.wrap (i+(1:Int))).toNat)≤(100000:Nat):=by
 rw [tk_w h hL,List.length_take,List.length_drop];omega
theorem tk_d {Q:List (Int×List UInt8)} {i:Int} (h:0≤i∧i.toNat<Q.length) (hL:Q.length≤1000):(0:Int)≤IntKind.i64.wrap (i+(1:Int))∧IntKind.i64.wrap (i+(1:Int))≤(Q.length:Int)∧(Q.length:Int)≤(Q.length:Int):=by
 rw [tk_w h hL];omega
theorem tk_e {Q:List (Int×List UInt8)} {i:Int} (h:0≤i∧i.toNat<Q.length) (hL:Q.length≤1000):List.take (i.toNat - Int.toNat (0:Int)) (List.drop (Int.toNat (0:Int)) Q)++List.take ((Q.length:Int).toNat - (IntKind.i64.wrap (i+(1:Int))).toNat) (List.drop (IntKind.i64.wrap (i+(1:Int))).toNat Q)=Q.take i.toNat++Q.drop (i.toNat+1):=by
 rw [tk_w h hL]
 have e1:(i+1).toNat=i.toNat+1:=by omega
 have e2:i.toNat - Int.toNat (0:Int)=i.toNat:=by simp
 rw [e1,e2]
 have e3:List.take ((Q.length:Int).toNat - (i.toNat+1)) (List.drop (i.toNat+1) Q)=Q.drop (i.toNat+1):=List.take_of_length_le (by rw [List.length_drop];omega)
 rw [e3];rfl
set_option maxRecDepth 100000 in
theorem rtake_w0 (Q:List (Int×List UInt8)) (i:Int) (h0:0≤i∧i.toNat<Q.length) (h1:(decide (i<0)||decide (i≥(Q.length:Int)))=false) (h2:(Q.getD i.toNat (0,[])).2.length≤1000000) (h3:Q.length≤1000):∃ qs,wayO Id' ([⟨.bx [.obj 1],true⟩,⟨.us (.ext (.tab (.wq 39 Q))),true⟩]:Mem Td).length [⟨.bx [.obj 3],true⟩,⟨.dead,true⟩,⟨.us (.byt ((Q.getD i.toNat (0,[])).2)),false⟩,⟨.us (.ext (.tab (.wq 39 (Q.take i.toNat++Q.drop (i.toNat+1))))),true⟩] (.tup [.agg [.v (.int .i64 ((Q.getD i.toNat (0,[])).1)),.obj 2],.one (.v (.int .i64 0))]) ((runFn (⟨Try.prog,[(19,ctrF Id' C_rat hardD)],[],dkHo,Id'.one,60⟩:Sy Td) [] Try.f21 [.one (.ptr 0 0),.one (.v (.int .i64 i))] [⟨.bx [.obj 1],true⟩,⟨.us (.ext (.tab (.wq 39 Q))),true⟩]).al [false])=some qs∧∀ q∈qs,q:=
 ⟨[(0:Int)≤i∧i.toNat<Q.length,(decide (i<(0:Int))||decide (i≥(Q.length:Int)))=false,false=false,i.toNat - Int.toNat (0:Int)≤(100000:Nat),(0:Int)≤(0:Int)∧(0:Int)≤i∧i≤(Q.length:Int),(List.take (i.toNat - Int.toNat (0:Int)) (List.drop (Int.toNat (0:Int)) Q)).length+((Q.length:Int).toNat - (IntKind.i64.wrap (i+(1:Int))).toNat)≤(100000:Nat),(0:Int)≤IntKind.i64.wrap (i+(1:Int))∧IntKind.i64.wrap (i+(1:Int))≤(Q.length:Int)∧(Q.length:Int)≤(Q.length:Int),(Th.byt (Q.getD i.toNat ((0:Int),[])).2:Td)=Th.byt (Q.getD i.toNat ((0:Int),[])).2,(Th.ext (Dk.tab (TB.wq 39 (List.take (i.toNat - Int.toNat (0:Int)) (List.drop (Int.toNat (0:Int)) Q)++List.take ((Q.length:Int).toNat - (IntKind.i64.wrap (i+(1:Int))).toNat) (List.drop (IntKind.i64.wrap (i+(1:Int))).toNat Q)))):Td)=Th.ext (Dk.tab (TB.wq 39 (Q.take i.toNat++Q.drop (i.toNat+1)))),Value.int IntKind.i64 (Q.getD i.toNat ((0:Int),[])).fst=Value.int IntKind.i64 (Q.getD i.toNat ((0:Int),[])).fst,Value.int IntKind.i64 (Int.ofNat 0)=Value.int IntKind.i64 (Int.ofNat 0)],by kernel_rfl,(by refine mcons ?_ (mcons ?_ (mcons ?_ (mcons ?_ (mcons ?_ (mcons ?_ (mcons ?_ (mcons ?_ (mcons ?_ (mcons ?_ (mcons ?_ mnil))))))))))<;>first|rfl|exact h0|exact h1|exact h2|exact h3|trivial|(exact h0)|(exact h1)|(exact h2)|(exact h3)|(exact tk_w h0 h3)|(exact tk_b h0)|(exact tk_c h0 h3)|(exact tk_d h0 h3)|(exact congrArg (fun x=>(Th.ext (Dk.tab (TB.wq 39 x)):Td)) (tk_e h0 h3))|(exact by have:=h0;have:=h3;omega))⟩
def C_rtake:Ctr Td:=fun us sub=>match us,sub with
 |[.one (.ptr 0 0),.one (.v (.int .i64 i))],[⟨.bx [.obj 1],true⟩,⟨.us (.ext (.tab (.wq 39 Q))),true⟩]=>some ([0≤i∧i.toNat<Q.length,(decide (i<0)||decide (i≥(Q.length:Int)))=false,(Q.getD i.toNat (0,[])).2.length≤1000000,Q.length≤1000],.tup [.agg [.v (.int .i64 ((Q.getD i.toNat (0,[])).1)),.obj 2],.one (.v (.int .i64 0))],[⟨.bx [.obj 3],true⟩,⟨.dead,true⟩,⟨.us (.byt ((Q.getD i.toNat (0,[])).2)),false⟩,⟨.us (.ext (.tab (.wq 39 (Q.take i.toNat++Q.drop (i.toNat+1))))),true⟩])
 |_,_=>none
set_option maxRecDepth 100000 in
theorem C_rtake_ok:CtrOk Try.prog Id' 21 C_rtake:=by
 intro us sub ps x sm h hp w e vs hM ha
 unfold C_rtake at h
 split at h
 ·rename_i i Q
  simp only [Option.some.injEq,Prod.mk.injEq] at h
  obtain ⟨rfl,rfl,rfl⟩:=h
  have h0:=hp _ ((List.mem_cons_self ..))
  have h1:=hp _ (List.mem_cons_of_mem _ ((List.mem_cons_self ..)))
  have h2:=hp _ (List.mem_cons_of_mem _ (List.mem_cons_of_mem _ ((List.mem_cons_self ..))))
  have h3:=hp _ (List.mem_cons_of_mem _ (List.mem_cons_of_mem _ (List.mem_cons_of_mem _ ((List.mem_cons_self ..)))))
  exact ctr_way (I:=Id') (fun (W0:World) (G:Nat→Prop)=>SyOk.mk2 Try.mixed dkHo_ok (FnsR.cons (R_rat) (FnsR.nil)) EqsOk.nil) rfl Try.func21 (by kernel_rfl) (fun W0 G=>LpsOk.nil _) (cs:=[false]) (by kernel_rfl) (rtake_w0 Q i h0 h1 h2 h3) w e vs hM ha
 ·cases h
theorem R_rtake:RowOk Try.prog Id' hardD 21 (ctrF Id' C_rtake hardD):=ctrF_ok Try.call21 C_rtake_ok
set_option maxRecDepth 100000 in
theorem rtakeN_w0 (Q:List (Int×List UInt8)) (i:Int) (h0:(decide (i<0)||decide (i≥(Q.length:Int)))=true):∃ qs,wayO Id' ([⟨.bx [.obj 1],true⟩,⟨.us (.ext (.tab (.wq 39 Q))),true⟩]:Mem Td).length [⟨.bx [.obj 1],true⟩,⟨.us (.ext (.tab (.wq 39 Q))),true⟩] (.tup [.agg [.v (.int .i64 0),.v (.slice none 0 0)],.one (.v (.int .i64 11))]) ((runFn (⟨Try.prog,[(19,ctrF Id' C_ratN hardD)],[],dkHo,Id'.one,60⟩:Sy Td) [] Try.f21 [.one (.ptr 0 0),.one (.v (.int .i64 i))] [⟨.bx [.obj 1],true⟩,⟨.us (.ext (.tab (.wq 39 Q))),true⟩]).al [true])=some qs∧∀ q∈qs,q:=
 ⟨[(decide (i<(0:Int))||decide (i≥(↑Q.length:Int)))=true,true=true,(Th.ext (Dk.tab (TB.wq 39 Q)):Td)=Th.ext (Dk.tab (TB.wq 39 Q)),Value.int IntKind.i64 (Int.ofNat 0)=Value.int IntKind.i64 (Int.ofNat 0),Value.slice none 0 0=Value.slice none 0 0,Value.int IntKind.i64 (Int.ofNat 11)=Value.int IntKind.i64 (Int.ofNat 11)],by kernel_rfl,(by refine mcons ?_ (mcons ?_ (mcons ?_ (mcons ?_ (mcons ?_ (mcons ?_ mnil)))))<;>first|rfl|exact h0|trivial|(exact h0)|(exact h1)|(exact h2)|(exact h3))⟩
def C_rtakeN:Ctr Td:=fun us sub=>match us,sub with
 |[.one (.ptr 0 0),.one (.v (.int .i64 i))],[⟨.bx [.obj 1],true⟩,⟨.us (.ext (.tab (.wq 39 Q))),true⟩]=>some ([(decide (i<0)||decide (i≥(Q.length:Int)))=true],.tup [.agg [.v (.int .i64 0),.v (.slice none 0 0)],.one (.v (.int .i64 11))],[⟨.bx [.obj 1],true⟩,⟨.us (.ext (.tab (.wq 39 Q))),true⟩])
 |_,_=>none
set_option maxRecDepth 100000 in
theorem C_rtakeN_ok:CtrOk Try.prog Id' 21 C_rtakeN:=by
 intro us sub ps x sm h hp w e vs hM ha
 unfold C_rtakeN at h
 split at h
 ·rename_i i Q
  simp only [Option.some.injEq,Prod.mk.injEq] at h
  obtain ⟨rfl,rfl,rfl⟩:=h
  have h0:=hp _ ((List.mem_cons_self ..))
  exact ctr_way (I:=Id') (fun (W0:World) (G:Nat→Prop)=>SyOk.mk2 Try.mixed dkHo_ok (FnsR.cons (R_ratN) (FnsR.nil)) EqsOk.nil) rfl Try.func21 (by kernel_rfl) (fun W0 G=>LpsOk.nil _) (cs:=[true]) (by kernel_rfl) (rtakeN_w0 Q i h0) w e vs hM ha
 ·cases h
theorem R_rtakeN:RowOk Try.prog Id' hardD 21 (ctrF Id' C_rtakeN hardD):=ctrF_ok Try.call21 C_rtakeN_ok
set_option maxRecDepth 100000 in
theorem ntake_w0 (Q:List (Int×List UInt8)) (i:Int) (h0:0≤i∧i.toNat<Q.length) (h1:(decide (i<0)||decide (i≥(Q.length:Int)))=false) (h2:(Q.getD i.toNat (0,[])).2.length≤1000000) (h3:Q.length≤1000):∃ qs,wayO Id' ([⟨.bx [.obj 1],true⟩,⟨.us (.ext (.tab (.wq 37 Q))),true⟩]:Mem Td).length [⟨.bx [.obj 3],true⟩,⟨.dead,true⟩,⟨.us (.own ((Q.getD i.toNat (0,[])).2)),true⟩,⟨.us (.ext (.tab (.wq 37 (Q.take i.toNat++Q.drop (i.toNat+1))))),true⟩] (.tup [.agg [.v (.int .i64 ((Q.getD i.toNat (0,[])).1)),.obj 2],.one (.v (.int .i64 0))]) ((runFn (⟨Try.prog,[(18,ctrF Id' C_nat hardD),(94,ctrF Id' C_delP hardD)],[],dkHo,Id'.one,60⟩:Sy Td) [] Try.f20 [.one (.ptr 0 0),.one (.v (.int .i64 i))] [⟨.bx [.obj 1],true⟩,⟨.us (.ext (.tab (.wq 37 Q))),true⟩]).al [true])=some qs∧∀ q∈qs,q:=
 ⟨[(0:Int)≤i∧i.toNat<Q.length,(decide (i<(0:Int))||decide (i≥(Q.length:Int)))=false,(Q.getD i.toNat ((0:Int),[])).snd.length≤(1000000:Nat),true=true,(0:Int)≤i∧i.toNat<Q.length,IntKind.i64.wrap (i+(1:Int))=i+(1:Int),Q.length≤(100000:Nat),(Th.own (Q.getD i.toNat ((0:Int),[])).2:Td)=Th.own (Q.getD i.toNat ((0:Int),[])).2,(Th.ext (Dk.tab (TB.wq 37 (Q.take i.toNat++Q.drop (i.toNat+1)))):Td)=Th.ext (Dk.tab (TB.wq 37 (Q.take i.toNat++Q.drop (i.toNat+1)))),Value.int IntKind.i64 (Q.getD i.toNat ((0:Int),[])).fst=Value.int IntKind.i64 (Q.getD i.toNat ((0:Int),[])).fst,Value.int IntKind.i64 (Int.ofNat 0)=Value.int IntKind.i64 (Int.ofNat 0)],by kernel_rfl,(by refine mcons ?_ (mcons ?_ (mcons ?_ (mcons ?_ (mcons ?_ (mcons ?_ (mcons ?_ (mcons ?_ (mcons ?_ (mcons ?_ (mcons ?_ mnil))))))))))<;>first|rfl|exact h0|exact h1|exact h2|exact h3|trivial|(exact h0)|(exact h1)|(exact h2)|(exact h3)|(exact tk_w h0 h3)|(exact tk_b h0)|(exact tk_c h0 h3)|(exact tk_d h0 h3)|(exact congrArg (fun x=>(Th.ext (Dk.tab (TB.wq 39 x)):Td)) (tk_e h0 h3))|(exact by have:=h0;have:=h3;omega))⟩
def C_ntake:Ctr Td:=fun us sub=>match us,sub with
 |[.one (.ptr 0 0),.one (.v (.int .i64 i))],[⟨.bx [.obj 1],true⟩,⟨.us (.ext (.tab (.wq 37 Q))),true⟩]=>some ([0≤i∧i.toNat<Q.length,(decide (i<0)||decide (i≥(Q.length:Int)))=false,(Q.getD i.toNat (0,[])).2.length≤1000000,Q.length≤1000],.tup [.agg [.v (.int .i64 ((Q.getD i.toNat (0,[])).1)),.obj 2],.one (.v (.int .i64 0))],[⟨.bx [.obj 3],true⟩,⟨.dead,true⟩,⟨.us (.own ((Q.getD i.toNat (0,[])).2)),true⟩,⟨.us (.ext (.tab (.wq 37 (Q.take i.toNat++Q.drop (i.toNat+1))))),true⟩])
 |_,_=>none
set_option maxRecDepth 100000 in
theorem C_ntake_ok:CtrOk Try.prog Id' 20 C_ntake:=by
 intro us sub ps x sm h hp w e vs hM ha
 unfold C_ntake at h
 split at h
 ·rename_i i Q
  simp only [Option.some.injEq,Prod.mk.injEq] at h
  obtain ⟨rfl,rfl,rfl⟩:=h
  have h0:=hp _ ((List.mem_cons_self ..))
  have h1:=hp _ (List.mem_cons_of_mem _ ((List.mem_cons_self ..)))
  have h2:=hp _ (List.mem_cons_of_mem _ (List.mem_cons_of_mem _ ((List.mem_cons_self ..))))
  have h3:=hp _ (List.mem_cons_of_mem _ (List.mem_cons_of_mem _ (List.mem_cons_of_mem _ ((List.mem_cons_self ..)))))
  exact ctr_way (I:=Id') (fun (W0:World) (G:Nat→Prop)=>SyOk.mk2 Try.mixed dkHo_ok (FnsR.cons (R_nat) (FnsR.cons (R_delP) (FnsR.nil))) EqsOk.nil) rfl Try.func20 (by kernel_rfl) (fun W0 G=>LpsOk.nil _) (cs:=[true]) (by kernel_rfl) (ntake_w0 Q i h0 h1 h2 h3) w e vs hM ha
 ·cases h
theorem R_ntake:RowOk Try.prog Id' hardD 20 (ctrF Id' C_ntake hardD):=ctrF_ok Try.call20 C_ntake_ok
set_option maxRecDepth 100000 in
theorem ntakeN_w0 (Q:List (Int×List UInt8)) (i:Int) (h0:(decide (i<0)||decide (i≥(Q.length:Int)))=true):∃ qs,wayO Id' ([⟨.bx [.obj 1],true⟩,⟨.us (.ext (.tab (.wq 37 Q))),true⟩]:Mem Td).length [⟨.bx [.obj 1],true⟩,⟨.us (.ext (.tab (.wq 37 Q))),true⟩] (.tup [.agg [.v (.int .i64 0),.v (.slice none 0 0)],.one (.v (.int .i64 11))]) ((runFn (⟨Try.prog,[(18,ctrF Id' C_natN hardD),(94,ctrF Id' C_delP hardD)],[],dkHo,Id'.one,60⟩:Sy Td) [] Try.f20 [.one (.ptr 0 0),.one (.v (.int .i64 i))] [⟨.bx [.obj 1],true⟩,⟨.us (.ext (.tab (.wq 37 Q))),true⟩]).al [false])=some qs∧∀ q∈qs,q:=
 ⟨[(decide (i<(0:Int))||decide (i≥(↑Q.length:Int)))=true,false=false,(Th.ext (Dk.tab (TB.wq 37 Q)):Td)=Th.ext (Dk.tab (TB.wq 37 Q)),Value.int IntKind.i64 (Int.ofNat 0)=Value.int IntKind.i64 (Int.ofNat 0),Value.slice none 0 0=Value.slice none 0 0,Value.int IntKind.i64 (Int.ofNat 11)=Value.int IntKind.i64 (Int.ofNat 11)],by kernel_rfl,(by refine mcons ?_ (mcons ?_ (mcons ?_ (mcons ?_ (mcons ?_ (mcons ?_ mnil)))))<;>first|rfl|exact h0|trivial|(exact h0)|(exact h1)|(exact h2)|(exact h3))⟩
def C_ntakeN:Ctr Td:=fun us sub=>match us,sub with
 |[.one (.ptr 0 0),.one (.v (.int .i64 i))],[⟨.bx [.obj 1],true⟩,⟨.us (.ext (.tab (.wq 37 Q))),true⟩]=>some ([(decide (i<0)||decide (i≥(Q.length:Int)))=true],.tup [.agg [.v (.int .i64 0),.v (.slice none 0 0)],.one (.v (.int .i64 11))],[⟨.bx [.obj 1],true⟩,⟨.us (.ext (.tab (.wq 37 Q))),true⟩])
 |_,_=>none
set_option maxRecDepth 100000 in
theorem C_ntakeN_ok:CtrOk Try.prog Id' 20 C_ntakeN:=by
 intro us sub ps x sm h hp w e vs hM ha
 unfold C_ntakeN at h
 split at h
 ·rename_i i Q
  simp only [Option.some.injEq,Prod.mk.injEq] at h
  obtain ⟨rfl,rfl,rfl⟩:=h
  have h0:=hp _ ((List.mem_cons_self ..))
  exact ctr_way (I:=Id') (fun (W0:World) (G:Nat→Prop)=>SyOk.mk2 Try.mixed dkHo_ok (FnsR.cons (R_natN) (FnsR.cons (R_delP) (FnsR.nil))) EqsOk.nil) rfl Try.func20 (by kernel_rfl) (fun W0 G=>LpsOk.nil _) (cs:=[false]) (by kernel_rfl) (ntakeN_w0 Q i h0) w e vs hM ha
 ·cases h
theorem R_ntakeN:RowOk Try.prog Id' hardD 20 (ctrF Id' C_ntakeN hardD):=ctrF_ok Try.call20 C_ntakeN_ok
set_option maxRecDepth 100000 in
theorem ncopy_w0 (Q:List (Int×List UInt8)) (i:Int) (h0:0≤i∧i.toNat<Q.length) (h1:(decide (i<0)||decide (i≥(Q.length:Int)))=false) (h2:(Q.getD i.toNat (0,[])).2.length≤1000000) (h3:Q.length≤1000):∃ qs,wayO Id' ([⟨.bx [.obj 1],true⟩,⟨.us (.ext (.tab (.wq 37 Q))),true⟩]:Mem Td).length [⟨.bx [.obj 2],true⟩,⟨.dead,true⟩,⟨.us (.ext (.tab (.wq 37 (sdQ Q (Q.getD i.toNat (0,[])).1 (Q.getD i.toNat (0,[])).2)))),true⟩] (.c (.one (.v (.int .i64 (sdE Q (Q.getD i.toNat (0,[])).1))))) ((runFn (⟨Try.prog,[(18,ctrF Id' C_nat hardD),(16,ctrF Id' C_nsendO hardD)],[],dkHo,Id'.one,60⟩:Sy Td) [] Try.f95 [.one (.ptr 0 0),.one (.v (.int .i64 i))] [⟨.bx [.obj 1],true⟩,⟨.us (.ext (.tab (.wq 37 Q))),true⟩]).al [false])=some qs∧∀ q∈qs,q:=
 ⟨[(0:Int)≤i∧i.toNat<Q.length,(decide (i<(0:Int))||decide (i≥(Q.length:Int)))=false,(Q.getD i.toNat ((0:Int),[])).snd.length≤(1000000:Nat),false=false,(Q.getD i.toNat ((0:Int),[])).snd.length≤(1000000:Nat),Q.length+(1:Nat)≤(100000:Nat),(En.mk (Ob.us (Th.own (Q.getD i.toNat ((0:Int),[])).2)) true:En Td)=En.mk (Ob.us (Th.own (Q.getD i.toNat ((0:Int),[])).2)) true,(Th.ext (Dk.tab (TB.wq 37 (sdQ Q (Q.getD i.toNat ((0:Int),[])).fst (Q.getD i.toNat ((0:Int),[])).snd))):Td)=Th.ext (Dk.tab (TB.wq 37 (sdQ Q (Q.getD i.toNat ((0:Int),[])).fst (Q.getD i.toNat ((0:Int),[])).snd))),Value.int IntKind.i64 (sdE Q (Q.getD i.toNat ((0:Int),[])).fst)=Value.int IntKind.i64 (sdE Q (Q.getD i.toNat ((0:Int),[])).fst)],by kernel_rfl,(by refine mcons ?_ (mcons ?_ (mcons ?_ (mcons ?_ (mcons ?_ (mcons ?_ (mcons ?_ (mcons ?_ (mcons ?_ mnil))))))))<;>first|rfl|exact h0|exact h1|exact h2|exact h3|trivial|(exact h0)|(exact h1)|(exact h2)|(exact h3)|(exact tk_w h0 h3)|(exact tk_b h0)|(exact tk_c h0 h3)|(exact tk_d h0 h3)|(exact congrArg (fun x=>(Th.ext (Dk.tab (TB.wq 39 x)):Td)) (tk_e h0 h3))|(exact by have:=h0;have:=h3;omega))⟩
def C_ncopy:Ctr Td:=fun us sub=>match us,sub with
 |[.one (.ptr 0 0),.one (.v (.int .i64 i))],[⟨.bx [.obj 1],true⟩,⟨.us (.ext (.tab (.wq 37 Q))),true⟩]=>some ([0≤i∧i.toNat<Q.length,(decide (i<0)||decide (i≥(Q.length:Int)))=false,(Q.getD i.toNat (0,[])).2.length≤1000000,Q.length≤1000],.c (.one (.v (.int .i64 (sdE Q (Q.getD i.toNat (0,[])).1)))),[⟨.bx [.obj 2],true⟩,⟨.dead,true⟩,⟨.us (.ext (.tab (.wq 37 (sdQ Q (Q.getD i.toNat (0,[])).1 (Q.getD i.toNat (0,[])).2)))),true⟩])
 |_,_=>none
set_option maxRecDepth 100000 in
theorem C_ncopy_ok:CtrOk Try.prog Id' 95 C_ncopy:=by
 intro us sub ps x sm h hp w e vs hM ha
 unfold C_ncopy at h
 split at h
 ·rename_i i Q
  simp only [Option.some.injEq,Prod.mk.injEq] at h
  obtain ⟨rfl,rfl,rfl⟩:=h
  have h0:=hp _ ((List.mem_cons_self ..))
  have h1:=hp _ (List.mem_cons_of_mem _ ((List.mem_cons_self ..)))
  have h2:=hp _ (List.mem_cons_of_mem _ (List.mem_cons_of_mem _ ((List.mem_cons_self ..))))
  have h3:=hp _ (List.mem_cons_of_mem _ (List.mem_cons_of_mem _ (List.mem_cons_of_mem _ ((List.mem_cons_self ..)))))
  exact ctr_way (I:=Id') (fun (W0:World) (G:Nat→Prop)=>SyOk.mk2 Try.mixed dkHo_ok (FnsR.cons (R_nat) (FnsR.cons (R_nsendO) (FnsR.nil))) EqsOk.nil) rfl Try.func95 (by kernel_rfl) (fun W0 G=>LpsOk.nil _) (cs:=[false]) (by kernel_rfl) (ncopy_w0 Q i h0 h1 h2 h3) w e vs hM ha
 ·cases h
theorem R_ncopy:RowOk Try.prog Id' hardD 95 (ctrF Id' C_ncopy hardD):=ctrF_ok Try.call95 C_ncopy_ok
set_option maxRecDepth 100000 in
theorem ncopyN_w0 (Q:List (Int×List UInt8)) (i:Int) (h0:(decide (i<0)||decide (i≥(Q.length:Int)))=true):∃ qs,wayO Id' ([⟨.bx [.obj 1],true⟩,⟨.us (.ext (.tab (.wq 37 Q))),true⟩]:Mem Td).length [⟨.bx [.obj 1],true⟩,⟨.us (.ext (.tab (.wq 37 Q))),true⟩] (.c (.one (.v (.int .i64 11)))) ((runFn (⟨Try.prog,[(18,ctrF Id' C_natN hardD),(16,ctrF Id' C_nsendO hardD)],[],dkHo,Id'.one,60⟩:Sy Td) [] Try.f95 [.one (.ptr 0 0),.one (.v (.int .i64 i))] [⟨.bx [.obj 1],true⟩,⟨.us (.ext (.tab (.wq 37 Q))),true⟩]).al [true])=some qs∧∀ q∈qs,q:=
 ⟨[(decide (i<(0:Int))||decide (i≥(↑Q.length:Int)))=true,true=true,(Th.ext (Dk.tab (TB.wq 37 Q)):Td)=Th.ext (Dk.tab (TB.wq 37 Q)),Value.int IntKind.i64 (Int.ofNat 11)=Value.int IntKind.i64 (Int.ofNat 11)],by kernel_rfl,(by refine mcons ?_ (mcons ?_ (mcons ?_ (mcons ?_ mnil)))<;>first|rfl|exact h0|trivial|(exact h0)|(exact h1)|(exact h2)|(exact h3))⟩
def C_ncopyN:Ctr Td:=fun us sub=>match us,sub with
 |[.one (.ptr 0 0),.one (.v (.int .i64 i))],[⟨.bx [.obj 1],true⟩,⟨.us (.ext (.tab (.wq 37 Q))),true⟩]=>some ([(decide (i<0)||decide (i≥(Q.length:Int)))=true],.c (.one (.v (.int .i64 11))),[⟨.bx [.obj 1],true⟩,⟨.us (.ext (.tab (.wq 37 Q))),true⟩])
 |_,_=>none
set_option maxRecDepth 100000 in
theorem C_ncopyN_ok:CtrOk Try.prog Id' 95 C_ncopyN:=by
 intro us sub ps x sm h hp w e vs hM ha
 unfold C_ncopyN at h
 split at h
 ·rename_i i Q
  simp only [Option.some.injEq,Prod.mk.injEq] at h
  obtain ⟨rfl,rfl,rfl⟩:=h
  have h0:=hp _ ((List.mem_cons_self ..))
  exact ctr_way (I:=Id') (fun (W0:World) (G:Nat→Prop)=>SyOk.mk2 Try.mixed dkHo_ok (FnsR.cons (R_natN) (FnsR.cons (R_nsendO) (FnsR.nil))) EqsOk.nil) rfl Try.func95 (by kernel_rfl) (fun W0 G=>LpsOk.nil _) (cs:=[true]) (by kernel_rfl) (ncopyN_w0 Q i h0) w e vs hM ha
 ·cases h
theorem R_ncopyN:RowOk Try.prog Id' hardD 95 (ctrF Id' C_ncopyN hardD):=ctrF_ok Try.call95 C_ncopyN_ok
end Go.Proofs.Ytdenmoiaiemokaa
set_option linter.unusedVariables false
set_option linter.unusedSimpArgs false
namespace Go.Proofs.Ytdenmoiaiemokaa
open Go.RowKit
set_option maxRecDepth 100000 in
theorem ndrop_w0 (Q:List (Int×List UInt8)) (i:Int) (h0:0≤i∧i.toNat<Q.length) (h1:(decide (i<0)||decide (i≥(Q.length:Int)))=false) (h2:(Q.getD i.toNat (0,[])).2.length≤1000000) (h3:Q.length≤1000):∃ qs,wayO Id' ([⟨.bx [.obj 1],true⟩,⟨.us (.ext (.tab (.wq 37 Q))),true⟩]:Mem Td).length [⟨.bx [.obj 2],true⟩,⟨.dead,true⟩,⟨.us (.ext (.tab (.wq 37 (Q.take i.toNat++Q.drop (i.toNat+1))))),true⟩] (.c (.one (.v (.int .i64 0)))) ((runFn (⟨Try.prog,[(20,ctrF Id' C_ntake hardD)],[],dkHo,Id'.one,60⟩:Sy Td) [] Try.f22 [.one (.ptr 0 0),.one (.v (.int .i64 i))] [⟨.bx [.obj 1],true⟩,⟨.us (.ext (.tab (.wq 37 Q))),true⟩]).al [])=some qs∧∀ q∈qs,q:=
 ⟨[(0:Int)≤i∧i.toNat<Q.length,(decide (i<(0:Int))||decide (i≥(Q.length:Int)))=false,(Q.getD i.toNat ((0:Int),[])).snd.length≤(1000000:Nat),Q.length≤(1000:Nat),(Th.ext (Dk.tab (TB.wq 37 (Q.take i.toNat++Q.drop (i.toNat+1)))):Td)=Th.ext (Dk.tab (TB.wq 37 (Q.take i.toNat++Q.drop (i.toNat+1)))),Value.int IntKind.i64 (Int.ofNat 0)=Value.int IntKind.i64 (Int.ofNat 0)],by kernel_rfl,(by refine mcons ?_ (mcons ?_ (mcons ?_ (mcons ?_ (mcons ?_ (mcons ?_ mnil)))))<;>first|rfl|exact h0|exact h1|exact h2|exact h3|trivial|(exact h0)|(exact h1)|(exact h2)|(exact h3)|(exact tk_w h0 h3)|(exact tk_b h0)|(exact tk_c h0 h3)|(exact tk_d h0 h3)|(exact congrArg (fun x=>(Th.ext (Dk.tab (TB.wq 39 x)):Td)) (tk_e h0 h3))|(exact by have:=h0;have:=h3;omega))⟩
def C_ndrop:Ctr Td:=fun us sub=>match us,sub with
 |[.one (.ptr 0 0),.one (.v (.int .i64 i))],[⟨.bx [.obj 1],true⟩,⟨.us (.ext (.tab (.wq 37 Q))),true⟩]=>some ([0≤i∧i.toNat<Q.length,(decide (i<0)||decide (i≥(Q.length:Int)))=false,(Q.getD i.toNat (0,[])).2.length≤1000000,Q.length≤1000],.c (.one (.v (.int .i64 0))),[⟨.bx [.obj 2],true⟩,⟨.dead,true⟩,⟨.us (.ext (.tab (.wq 37 (Q.take i.toNat++Q.drop (i.toNat+1))))),true⟩])
 |_,_=>none
set_option maxRecDepth 100000 in
theorem C_ndrop_ok:CtrOk Try.prog Id' 22 C_ndrop:=by
 intro us sub ps x sm h hp w e vs hM ha
 unfold C_ndrop at h
 split at h
 ·rename_i i Q
  simp only [Option.some.injEq,Prod.mk.injEq] at h
  obtain ⟨rfl,rfl,rfl⟩:=h
  have h0:=hp _ ((List.mem_cons_self ..))
  have h1:=hp _ (List.mem_cons_of_mem _ ((List.mem_cons_self ..)))
  have h2:=hp _ (List.mem_cons_of_mem _ (List.mem_cons_of_mem _ ((List.mem_cons_self ..))))
  have h3:=hp _ (List.mem_cons_of_mem _ (List.mem_cons_of_mem _ (List.mem_cons_of_mem _ ((List.mem_cons_self ..)))))
  exact ctr_way (I:=Id') (fun (W0:World) (G:Nat→Prop)=>SyOk.mk2 Try.mixed dkHo_ok (FnsR.cons (R_ntake) (FnsR.nil)) EqsOk.nil) rfl Try.func22 (by kernel_rfl) (fun W0 G=>LpsOk.nil _) (cs:=[]) (by kernel_rfl) (ndrop_w0 Q i h0 h1 h2 h3) w e vs hM ha
 ·cases h
theorem R_ndrop:RowOk Try.prog Id' hardD 22 (ctrF Id' C_ndrop hardD):=ctrF_ok Try.call22 C_ndrop_ok
set_option maxRecDepth 100000 in
theorem ndropN_w0 (Q:List (Int×List UInt8)) (i:Int) (h0:(decide (i<0)||decide (i≥(Q.length:Int)))=true):∃ qs,wayO Id' ([⟨.bx [.obj 1],true⟩,⟨.us (.ext (.tab (.wq 37 Q))),true⟩]:Mem Td).length [⟨.bx [.obj 1],true⟩,⟨.us (.ext (.tab (.wq 37 Q))),true⟩] (.c (.one (.v (.int .i64 11)))) ((runFn (⟨Try.prog,[(20,ctrF Id' C_ntakeN hardD)],[],dkHo,Id'.one,60⟩:Sy Td) [] Try.f22 [.one (.ptr 0 0),.one (.v (.int .i64 i))] [⟨.bx [.obj 1],true⟩,⟨.us (.ext (.tab (.wq 37 Q))),true⟩]).al [])=some qs∧∀ q∈qs,q:=
 ⟨[(decide (i<(0:Int))||decide (i≥(↑Q.length:Int)))=true,(Th.ext (Dk.tab (TB.wq 37 Q)):Td)=Th.ext (Dk.tab (TB.wq 37 Q)),Value.int IntKind.i64 (Int.ofNat 11)=Value.int IntKind.i64 (Int.ofNat 11)],by kernel_rfl,(by refine mcons ?_ (mcons ?_ (mcons ?_ mnil))<;>first|rfl|exact h0|trivial|(exact h0)|(exact h1)|(exact h2)|(exact h3))⟩
def C_ndropN:Ctr Td:=fun us sub=>match us,sub with
 |[.one (.ptr 0 0),.one (.v (.int .i64 i))],[⟨.bx [.obj 1],true⟩,⟨.us (.ext (.tab (.wq 37 Q))),true⟩]=>some ([(decide (i<0)||decide (i≥(Q.length:Int)))=true],.c (.one (.v (.int .i64 11))),[⟨.bx [.obj 1],true⟩,⟨.us (.ext (.tab (.wq 37 Q))),true⟩])
 |_,_=>none
set_option maxRecDepth 100000 in
theorem C_ndropN_ok:CtrOk Try.prog Id' 22 C_ndropN:=by
 intro us sub ps x sm h hp w e vs hM ha
 unfold C_ndropN at h
 split at h
 ·rename_i i Q
  simp only [Option.some.injEq,Prod.mk.injEq] at h
  obtain ⟨rfl,rfl,rfl⟩:=h
  have h0:=hp _ ((List.mem_cons_self ..))
  exact ctr_way (I:=Id') (fun (W0:World) (G:Nat→Prop)=>SyOk.mk2 Try.mixed dkHo_ok (FnsR.cons (R_ntakeN) (FnsR.nil)) EqsOk.nil) rfl Try.func22 (by kernel_rfl) (fun W0 G=>LpsOk.nil _) (cs:=[]) (by kernel_rfl) (ndropN_w0 Q i h0) w e vs hM ha
 ·cases h
theorem R_ndropN:RowOk Try.prog Id' hardD 22 (ctrF Id' C_ndropN hardD):=ctrF_ok Try.call22 C_ndropN_ok
end Go.Proofs.Ytdenmoiaiemokaa
