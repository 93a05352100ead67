/- Y20 Y21. -/
import Derived.Test.YtdenmoiaiemokaaY19p
import Derived.Laws.OwnMore
import Derived.Lib.SliceRun
import Derived.Test.YtdenmoiaiemokaaH13p
set_option linter.unusedVariables false
set_option linter.unusedSimpArgs false
namespace Go.Proofs.Ytdenmoiaiemokaa
open Go.RowKit
set_option maxHeartbeats 1000000 in
theorem cloneW_c (v:Value) (n:Nat) (xs:List Value) (w:World) (h:Rs w 3 v n xs) (h1:∀ u∈xs,u.oneCell'=true) (hl:n≤100000):
  Calls Try.prog 102 #[v] w fun e w'=>∃ v',e=.returned v'∧Ext w w'∧w'.ownsRow w.heap.size 72 3 v' n xs:=by
 have h0:=h
 obtain ⟨ao,cap,rfl,ca1,ca2,ca3,ca0,hca⟩:=h0.open
 clear h0 hca
 have H:=Lib.hid h;clear h
 have H1:=Lib.hid h1;clear h1
 cases ao with
 |none=>
  have hc:=ca3 rfl
  subst hc
  have hn:n=0:=by omega
  subst hn
  have hx:xs=[]:=List.eq_nil_of_length_eq_zero (by omega)
  subst hx
  clear ca0 ca1 ca2 ca3
  have hnil:∀ w,(binOp .eql 66 (.slice none 0 0) (.slice none 0 0)).run Try.prog w=.ok (.bool true) w:=fun w=>Lib.run_eql_slice_nil w 66 72 none 0 0 0 0 Try.underlying66
  go_enter Try.func102,Try.ntmps102
  go_wp2
  go_ret
  exact ⟨_,rfl,Ext.refl w,World.ownsRow_nil _ _ _ _⟩
 |some a=>
  clear ca3
  have etE:ElemT Try.prog 66 72 3 24:=ElemT.mk' Try.underlying66 (z:=.agg #[.int .i64 0,.int .i64 0,.int .i64 0]) (by kernel_rfl) (by kernel_rfl) (by decide)
  have HE:=Lib.hid etE;clear etE
  have hnil:∀ w,(binOp .eql 66 (.slice (some a) n cap) (.slice none 0 0)).run Try.prog w=.ok (.bool false) w:=fun w=>Lib.run_eql_slice_nil w 66 72 (some a) n cap 0 0 Try.underlying66
  go_enter Try.func102,Try.ntmps102
  go_wp2_with (first|(at_builtin;go_loud (refine wpList_app rfl (.tmp 5) (.tmp 6) 66 rfl HE.out w.heap.size rfl (owns_lit (n:=0) (size:=3) (cs:=#[]) rfl (Nat.le_refl _) (by decide)) rfl (by have:=H.out.ext ((Ext.refl w).alloc (.cells #[] 72));exact this) H1.out (by omega) (by omega) (by simp) ?_);intro v' w1 hown hgr _)|fail)
  rw [Nat.zero_add] at hown
  obtain ⟨ao,cap',rfl⟩:=owns_shape hown
  go_ret
  exact ⟨_,rfl,((Ext.refl w).alloc _).grown hgr (fun k hk=>by cases hk;exact Nat.le_refl _),by simpa using hown⟩
def C_clW:Ctr Td:=fun us sub=>match us,sub with
 |[.one (.obj 0)],[⟨.us (.ext (.vw [false,false,false] R)),false⟩]=>some ([R.length≤100000],.c (.one (.obj 1)),[⟨.us (.ext (.vw [false,false,false] R)),false⟩,⟨.us (.ext (.flat (.rw 72 [false,false,false] R))),true⟩])
 |_,_=>none
theorem C_clW_ok:CtrOk Try.prog Id' 102 C_clW:=by
 intro us sub ps x sm h hp w e vs hM ha
 unfold C_clW at h
 split at h
 ·rename_i R
  simp only [Option.some.injEq,Prod.mk.injEq] at h
  obtain ⟨rfl,rfl,rfl⟩:=h
  have hL:R.length≤100000:=hp _ (List.mem_cons_self ..)
  obtain ⟨u0,rfl,a0⟩:=allC1 ha
  have hE:e[0]? =some u0:=is_one a0
  obtain ⟨k0,hR⟩:=hM.holds 0 _ _ hE rfl
  refine (cloneW_c u0 R.length (R.map (rwV [false,false,false])).flatten w hR rows_ones hL).mono fun y w' ⟨v,g1,g2,g3⟩=>⟨v,e++[v],g1,Grows.push e v,?_,?_⟩
  ·show (e++[v])[1]? =some v
   have:=hM.len
   rw [List.getElem?_append_right (by rw [this];exact Nat.le_refl _),this];rfl
  ·refine hM.push g2 v ⟨.us (.ext (.flat (.rw 72 [false,false,false] R))),true⟩ ⟨fun r hr=>?_,w.heap.size,g2.size,by rw [FL.len];exact g3⟩ fun k hk=>?_
   ·obtain ⟨y,_,rfl⟩:=List.mem_map.1 hr
    exact rwV_len _ y
   ·exact owns_block g3 hk
 ·cases h
end Go.Proofs.Ytdenmoiaiemokaa
set_option linter.unusedVariables false
set_option linter.unusedSimpArgs false
namespace Go.Proofs.Ytdenmoiaiemokaa
open Go.RowKit
theorem RW_clW:RowOk Try.prog Id' hardD 102 (ctrF Id' (wkC C_clW) hardD):=ctrF_ok Try.call102 (wkC_ok C_clW_ok)
set_option maxRecDepth 100000 in
theorem pal_w0 (Y:List Rw) (h0:Y.length≤100000):∃ qs,wayO Id' ([⟨.bx [.obj 1],true⟩,⟨.us (.ext (.flat (.rw 72 [false,false,false] Y))),true⟩]:Mem Td).length [⟨.bx [.obj 1],true⟩,⟨.us (.ext (.flat (.rw 72 [false,false,false] Y))),true⟩,⟨.us (.ext (.flat (.rw 72 [false,false,false] Y))),true⟩] (.c (.one (.obj 2))) ((runFn (⟨Try.prog,[(102,ctrF Id' (wkC C_clW) hardD)],[],dkHo,Id'.one,60⟩:Sy Td) [] Try.f38 [.one (.ptr 0 0)] [⟨.bx [.obj 1],true⟩,⟨.us (.ext (.flat (.rw 72 [false,false,false] Y))),true⟩]).al [])=some qs∧∀ q∈qs,q:=
 ⟨[Y.length≤(100000:Nat),(Th.ext (Dk.flat (FL.rw 72 [false,false,false] Y)):Td)=Th.ext (Dk.flat (FL.rw 72 [false,false,false] Y)),(Th.ext (Dk.flat (FL.rw 72 [false,false,false] Y)):Td)=Th.ext (Dk.flat (FL.rw 72 [false,false,false] Y))],by kernel_rfl,(by refine mcons ?_ (mcons ?_ (mcons ?_ mnil))<;>first|rfl|exact h0|trivial)⟩
def C_pal:Ctr Td:=fun us sub=>match us,sub with
 |[.one (.ptr 0 0)],[⟨.bx [.obj 1],true⟩,⟨.us (.ext (.flat (.rw 72 [false,false,false] Y))),true⟩]=>some ([Y.length≤100000],.c (.one (.obj 2)),[⟨.bx [.obj 1],true⟩,⟨.us (.ext (.flat (.rw 72 [false,false,false] Y))),true⟩,⟨.us (.ext (.flat (.rw 72 [false,false,false] Y))),true⟩])
 |_,_=>none
set_option maxRecDepth 100000 in
theorem C_pal_ok:CtrOk Try.prog Id' 38 C_pal:=by
 intro us sub ps x sm h hp w e vs hM ha
 unfold C_pal at h
 split at h
 ·rename_i Y
  simp only [Option.some.injEq,Prod.mk.injEq] at h
  obtain ⟨rfl,rfl,rfl⟩:=h
  have h0:=hp _ ((List.mem_cons_self ..))
  exact ctr_way (I:=Id') (fun (W0:World) (G:Nat→Prop)=>SyOk.mk2 Try.mixed dkHo_ok (FnsR.cons (RW_clW) (FnsR.nil)) EqsOk.nil) rfl Try.func38 (by kernel_rfl) (fun W0 G=>LpsOk.nil _) (cs:=[]) (by kernel_rfl) (pal_w0 Y h0) w e vs hM ha
 ·cases h
theorem R_pal:RowOk Try.prog Id' hardD 38 (ctrF Id' C_pal hardD):=ctrF_ok Try.call38 C_pal_ok
end Go.Proofs.Ytdenmoiaiemokaa
