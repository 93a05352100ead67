/- L10. -/
import Derived.Test.YtonomiljclemnaaL9p
set_option linter.unusedVariables false
set_option linter.unusedSimpArgs false
namespace Go.Proofs.Ytonomiljclemnaa
open Go.RowKit
set_option maxRecDepth 100000 in
set_option maxHeartbeats 4000000 in
theorem rseal_bad (p:Pc) (v:Value) (w:World) (hp:¬ p.ok) (hv:Bs w v p.d):
  Calls Try.prog 67 #[p.agg v] w fun r w'=>r=.returned (.tuple #[.slice none 0 0,.int .i64 2])∧Ext w w':=by
 obtain ⟨ao,cap,rfl,r1,r2,r3,r4⟩:=hv.open
 unfold Pc.agg
 obtain ⟨n,hn⟩:∃ n,n=p.d.length:=⟨_,rfl⟩
 obtain ⟨ep,hep⟩:∃ n,n=p.ep:=⟨_,rfl⟩
 obtain ⟨ct,hct⟩:∃ n,n=p.ct:=⟨_,rfl⟩
 have hp':¬ (ep≤16777215∧ct≤1099511627775∧n≤106):=by rw [hep,hct,hn];exact hp
 rw [← hn,←hep,←hct]
 clear hn hep hct hp hv r4 r3
 have hc:decide ((16777215:Int)<(ep:Int))=true∨(decide ((16777215:Int)<(ep:Int))=false∧decide ((1099511627775:Int)<(ct:Int))=true)∨(decide ((16777215:Int)<(ep:Int))=false∧decide ((1099511627775:Int)<(ct:Int))=false∧decide ((106:Int)<(n:Int))=true):=by
  simp only [decide_eq_true_eq,decide_eq_false_iff_not];omega
 clear hp'
 rcases hc with d1|⟨d1,d2⟩|⟨d1,d2,d3⟩
 all_goals
  go_enter Try.func67,Try.ntmps67
  go_wp2_with fail
  exact bodyPost_ret (v:=.tuple #[.slice none 0 0,.int .i64 2]) (by simp [results,Try.results67,go_sem]) rfl ⟨rfl,(Ext.refl w).alloc _⟩
set_option maxRecDepth 100000 in
set_option maxHeartbeats 8000000 in
theorem rseal_ok (p:Pc) (v:Value) (w:World) (hp:p.ok) (hv:Bs w v p.d):
  Calls Try.prog 67 #[p.agg v] w fun r w'=>∃ ao cap,r=.returned (.tuple #[.slice ao 128 cap,.int .i64 0])∧Ext w w'∧w'.ownsRow w.heap.size 5 1 (.slice ao 128 cap) 128 (p.sec.map bv):=by
 obtain ⟨ao,cap,rfl,r1,r2,r3,r4⟩:=hv.open
 obtain ⟨o1,o2,o3⟩:=hp
 obtain ⟨n,hn⟩:∃ n,n=p.d.length:=⟨_,rfl⟩
 obtain ⟨ep,hep⟩:∃ n,n=p.ep:=⟨_,rfl⟩
 obtain ⟨ct,hct⟩:∃ n,n=p.ct:=⟨_,rfl⟩
 obtain ⟨fi,hfi⟩:∃ n,n=p.fi:=⟨_,rfl⟩
 obtain ⟨la,hla⟩:∃ n,n=p.la:=⟨_,rfl⟩
 have HV:=Lib.hid hv;clear hv
 unfold Pc.agg
 rw [← hn] at r1 r4 o3 HV ⊢
 rw [← hep,←hct,←hfi,←hla]
 rw [← hep] at o1
 rw [← hct] at o2
 have d1:decide ((16777215:Int)<(ep:Int))=false:=by simp;omega
 have d2:decide ((1099511627775:Int)<(ct:Int))=false:=by simp;omega
 have d3:decide ((106:Int)<(n:Int))=false:=by simp;omega
 obtain ⟨f,hf⟩:∃ f,f=p.flag:=⟨_,rfl⟩
 have HF:Hid (f=fi.toNat+2 * la.toNat∧f<4∧f=p.flag):=Lib.hid ⟨by rw [hf,hfi,hla];rfl,by rw [hf];exact flag_lt p,hf⟩
 obtain ⟨st,hst⟩:∃ st,st=ep * 1099511627776+ct:=⟨_,rfl⟩
 have HST:Hid (st=p.st∧st<18446744073709551616):=Lib.hid ⟨by rw [hst,hep,hct];rfl,by omega⟩
 have HSW:Hid (IntKind.u64.wrap (IntKind.u64.wrap ((ep:Int) * 1099511627776)+(ct:Int))=(st:Int)):=Lib.hid (by rw [IntKind.wrap_u64,IntKind.wrap_u64,hst];omega)
 have HO:=Lib.hid (And.intro o1 (And.intro o2 o3))
 have HN:=Lib.hid hn
 have R3:=Lib.hid r3
 clear hn hep hct hfi hla hf hst r3 r4 o1 o2
 go_enter Try.func67,Try.ntmps67
 go_wp2_with fail
 rw [HSW.out]
 refine (rnumber_c st 8 _ (by decide) HST.out.2).mono ?_
 rintro e w2 ⟨sao,scap,rfl,hx2,ho2⟩
 obtain ⟨pb,hpb⟩:∃ pb,pb=w.heap.size:=⟨_,rfl⟩
 have HX2:Hid (Ext w w2):=Lib.hid (((Ext.refl w).alloc _).trans hx2)
 have hb2:w2.heap[pb]? =some (.cells #[.int .u64 ep,.int .u64 ct,.bool fi,.bool la,.slice ao n cap] 124 (0,0)):=by rw [hpb];exact (hx2.block _ (by simp) id).trans (heap_alloc_new w _)
 have HO2:Hid (Bs w2 (.slice sao 8 scap) (numL st 8)):=Lib.hid (by have h:=Rs.of_owns ho2;unfold Bs;rw [numL_length];exact h)
 have HB2:=Lib.hid hb2
 rw [← hpb]
 have HPB:=Lib.hid hpb
 have c2:w2.cell? ⟨pb,2,none⟩=some (.bool fi):=by rw [cell_of_blk hb2];rfl
 have c3:w2.cell? ⟨pb,3,none⟩=some (.bool la):=by rw [cell_of_blk hb2];rfl
 have c4:w2.cell? ⟨pb,4,none⟩=some (.slice ao n cap):=by rw [cell_of_blk hb2];rfl
 clear hb2 ho2 hx2 hpb
 go_upto_if 29 with fail
 go_cut [5] (fun s5 wx=>s5=.int .u8 ((fi.toNat:Nat):Int)∧wx=w2)
 case first=>
  cases fi
  all_goals
   go_wp2_with fail
   go_meet
   case rel=>exact ⟨rfl,rfl⟩
 case rest=>
  obtain ⟨rfl,rfl⟩:=hcut
  rename World=>w2
  go_upto_if 31 with fail
  go_cut [5] (fun s5 wx=>s5=.int .u8 (f:Int)∧wx=w2)
  case first=>
   have h:=HF.out.1
   cases fi<;>cases la
   all_goals
    simp at h
    subst h
    go_wp2_with fail
    go_meet
    case rel=>exact ⟨rfl,rfl⟩
  case rest=>
   obtain ⟨rfl,rfl⟩:=hcut
   rename World=>w2
   obtain ⟨B,hB⟩:∃ x,x=w2.heap.size:=⟨_,rfl⟩
   have HSB:Hid (B≤w2.heap.size∧B=w2.heap.size):=Lib.hid ⟨by rw [hB];exact Nat.le_refl _,hB⟩
   clear hB c2 c3 d1 d2 d3 HSW
   go_wp2_with fail
   refine wp_region_rx 8 _
    [ex (.slice sao 8 scap),
     (fun v w'=>∃ ao' cap',v=.slice ao' 8 cap'∧w'.ownsRow B 5 1 (.slice ao' 8 cap') 8 ((numL st 8).map bv)),
     ex (.int .u8 (f:Int)),
     ex (.pointer (some ⟨pb,4,none⟩)),
     ex (.slice ao n cap),
     ex (.int .i64 (n:Int)),
     ex (.int .u8 (n:Int)),
     (fun v w'=>∃ ad,v=.slice (some ad) 2 2∧Rs w' 1 (.slice (some ad) 2 2) 2 [.int .u8 (f:Int),.int .u8 (n:Int)])]
    (by kernel_rfl) (by kernel_rfl) (by kernel_rfl) rfl ⟨ex_st,(fun v w1 w2 h hx=>by obtain ⟨x,y,h1,h2⟩:=h;exact ⟨x,y,h1,owns_ext h2 hx⟩),ex_st,ex_st,ex_st,ex_st,ex_st,(fun v w1 w2 h hx=>by obtain ⟨x,h1,h2⟩:=h;exact ⟨x,h1,h2.ext hx⟩),trivial⟩ ?_ ?_
   ·simp only [List.take_succ_cons,List.take_zero]
    go_tidy
    refine RhOps.mk (RhOp.moveA (by decide) (.free rfl) 4 (fun _ w _=>Ext.refl w) rfl rfl (.slice sao 8 scap) rfl (fun _ _ _=>rfl)) ?_
    refine RhOps.mk (RhOp.at (by decide) (.free rfl) ?_) ?_
    rotate_left
    refine RhOps.mk (RhOp.moveA (by decide) (.free rfl) 5 (fun _ w _=>Ext.refl w) rfl rfl (.int .u8 (f:Int)) rfl (fun _ _ _=>rfl)) ?_
    refine RhOps.mk (RhOp.at (by decide) (.free rfl) ?_) ?_
    rotate_left
    refine RhOps.mk (RhOp.at (by decide) (.free rfl) ?_) ?_
    rotate_left
    refine RhOps.mk (RhOp.at (by decide) (.free rfl) ?_) ?_
    rotate_left
    refine RhOps.mk (RhOp.at (by decide) (.free rfl) ?_) ?_
    rotate_left
    refine RhOps.mk (RhOp.at (by decide) (.free rfl) ?_) ?_
    rotate_left
    exact RhOps.done
    ·intro bb vals ρ w' hC hd hS
     have r34:ρ (.tmp 34)=.slice sao 8 scap:=(hS.tmp 34).trans (hd.at 0 rfl)
     have rf:=hS.func
     refine (show givesR _ _ _ _ (fun v w''=>Ext w' w''∧(fun v w'=>∃ ao' cap',v=.slice ao' 8 cap'∧w'.ownsRow B 5 1 (.slice ao' 8 cap') 8 ((numL st 8).map bv)) v w'') from ?_)
     have hb:=HO2.out.ext hC
     have HBB:=Lib.hid hb
     have hz:=hC.size
     have HZ:=Lib.hid hz
     clear hC hd hS hb hz
     go_simp
     refine (copy_c _ (numL st 8) w' HBB.out (by rw [numL_length];decide)).mono ?_
     rintro e w'' ⟨ao2,cap2,rfl,hx,ho⟩
     rw [numL_length] at ho ⊢
     exact ⟨_,rfl,hx,ao2,cap2,rfl,owns_base ho (by have:=HZ.out;have:=HSB.out.1;omega)⟩
    ·intro bb vals ρ w' hC hd hS
     have r1:ρ (.tmp 1)=.pointer (some ⟨pb,0,none⟩):=hS.tmp 1
     refine (show givesR _ _ _ _ (fun v w''=>Ext w' w''∧v=.pointer (some ⟨pb,4,none⟩)) from ?_)
     clear hC hd hS
     go_simp
     exact Ext.refl _
    ·intro bb vals ρ w' hC hd hS
     have r37:ρ (.tmp 37)=.pointer (some ⟨pb,4,none⟩):=(hS.tmp 37).trans (hd.at 3 rfl)
     have qc:=hC.cell c4
     refine (show givesR _ _ _ _ (fun v w''=>Ext w' w''∧v=.slice ao n cap) from ?_)
     clear hC hd hS
     go_simp
     exact Ext.refl _
    ·intro bb vals ρ w' hC hd hS
     have r38:ρ (.tmp 38)=.slice ao n cap:=(hS.tmp 38).trans (hd.at 4 rfl)
     refine (show givesR _ _ _ _ (fun v w''=>Ext w' w''∧v=.int .i64 (n:Int)) from ?_)
     clear hC hd hS
     go_simp
     exact Ext.refl _
    ·intro bb vals ρ w' hC hd hS
     have r39:ρ (.tmp 39)=.int .i64 (n:Int):=(hS.tmp 39).trans (hd.at 5 rfl)
     refine (show givesR _ _ _ _ (fun v w''=>Ext w' w''∧v=.int .u8 (n:Int)) from ?_)
     clear hC hd hS
     go_simp
     exact ⟨Ext.refl _,p_len8 HO.out.2.2⟩
    ·intro bb vals ρ w' hC hd hS
     have r36:ρ (.tmp 36)=.int .u8 (f:Int):=(hS.tmp 36).trans (hd.at 2 rfl)
     have r40:ρ (.tmp 40)=.int .u8 (n:Int):=(hS.tmp 40).trans (hd.at 6 rfl)
     refine (show givesR _ _ _ _ (fun v w''=>Ext w' w''∧(fun v w'=>∃ ad,v=.slice (some ad) 2 2∧Rs w' 1 (.slice (some ad) 2 2) 2 [.int .u8 (f:Int),.int .u8 (n:Int)]) v w'') from ?_)
     clear hC hd hS
     go_simp
     refine ⟨(Ext.refl _).alloc _,?_⟩
     exact Rs.of_owns (owns_lit (w:=w') (B:=0) (n:=2) (size:=1) (e:=5) (cs:=#[.int .u8 (f:Int),.int .u8 (n:Int)]) rfl (Nat.zero_le _) (by decide))
   intro vals w' hC hV
   have e1:=hV 1 (by decide)
   have e7:=hV 7 (by decide)
   simp only [vlist,ex,List.getD_cons_zero,List.getD_cons_succ] at e1 e7
   have HC':=Lib.hid hC;clear hC hV
   simp only [List.drop_succ_cons,List.drop_zero]
   rename World=>w3
   obtain ⟨ao3,cap3,e1,o3⟩:=e1
   obtain ⟨ad,e7,o7⟩:=e7
   have hx3:Ext w2 w3:=HC'.out
   have HX3:=Lib.hid hx3
   refine wpList_app rfl (.tmp 35) (.tmp 41) 31 rfl etBytes B (full_tmp 62 rfl rfl 35 1 rfl e1) o3 (full_tmp 62 rfl rfl 41 7 rfl e7) o7 (by simp [Value.oneCell']) (by omega) (by omega) (by have:=HSB.out;have:=hx3.size;omega) ?_
   intro v8 w8 ho8 hg8 _
   obtain ⟨ao8,cap8,rfl⟩:=owns_shape ho8
   have hx8:Ext w2 w8:=hx3.grown hg8 (fun j hj=>by rw [← HSB.out.2];exact (owns_block o3 hj).1)
   have HX8:=Lib.hid hx8
   obtain ⟨l8,hl8⟩:∃ x,x=numL st 8++[UInt8.ofNat f,UInt8.ofNat n]:=⟨_,rfl⟩
   have ho8':w8.ownsRow B 5 1 (.slice ao8 10 cap8) 10 (l8.map bv):=by
    rw [hl8,List.map_append,List.map_cons,List.map_cons,List.map_nil,bv_small (by have:=HF.out.2.1;omega),bv_small (by have:=HO.out.2.2;omega)]
    exact ho8
   have HO8:=Lib.hid ho8'
   have HL8:=Lib.hid hl8
   have k4:=hx8.cell c4
   have HV8:=Lib.hid (HV.out.ext (HX2.out.trans hx8))
   clear hx3 hx8 ho8 ho8' hl8 o3 o7 hg8 c4
   go_wp2_with (first
    |(at_builtin;refine wpList_app rfl (.tmp 43) (.tmp 45) 31 rfl etBytes B rfl HO8.out rfl (by have h:=HV8.out;unfold Bs at h;rw [← HN.out] at h;exact h) (oneCell_bv _) (by omega) (by have:=HO.out.2.2;omega) (by have:=HSB.out;have:=HX8.out.size;omega) ?_;intro v9 w9 ho9 hg9 _)
    |fail)
   rw [← List.map_append] at ho9
   obtain ⟨ao9,cap9,rfl⟩:=owns_shape ho9
   have HX9:Hid (Ext w2 w9):=Lib.hid (HX8.out.grown hg9 (fun j hj=>by rw [← HSB.out.2];exact (owns_block HO8.out hj).1))
   obtain ⟨l9,hl9⟩:∃ x,x=l8++p.d:=⟨_,rfl⟩
   rw [← hl9] at ho9
   have HO9:=Lib.hid ho9
   have HL9:=Lib.hid hl9
   clear ho9 hg9 hl9
   have hn106:n≤106:=HO.out.2.2
   go_loopw [6] (fun v wr=>∃ m:Nat,10+n≤m∧m≤116∧∃ ao' cap',v=.slice ao' m cap'∧Hid (Ext w2 wr∧wr.ownsRow B 5 1 (.slice ao' m cap') m ((l9++List.replicate (m - (10+n)) 0).map bv))) (fun v _=>116 - (match v with|.slice _ m _=>m|_=>0))
   case atStart=>exact ⟨10+n,by omega,by omega,ao9,cap9,rfl,Lib.hid ⟨HX9.out,by simpa using HO9.out⟩⟩
   case round=>
    obtain ⟨m,hm1,hm2,aok,capk,rfl,HR⟩:=hrel
    by_cases hlt:m<116
    ·have HRP:=Lib.hid (show List.replicate (m+1 - (10+n)) (0:UInt8)=List.replicate (m - (10+n)) 0++[0] by rw [show m+1 - (10+n)=m - (10+n)+1 by omega,List.replicate_succ'])
     go_wp2_with (first
      |(at_builtin;refine wpList_app rfl (.tmp 50) (.tmp 51) 31 rfl etBytes B rfl (owns_ext HR.out.2 ((Ext.refl wr).alloc _)) rfl (Rs.of_owns (owns_lit (w:=wr) (B:=0) (n:=1) (size:=1) rfl (Nat.zero_le _) (by decide))) (by simp [Value.oneCell']) (by omega) (by omega) (by have:=HR.out.1.size;have:=HSB.out;simp;omega) ?_;intro v' w4 ho hg _)
      |fail)
     obtain ⟨ao',cap',rfl⟩:=owns_shape ho
     have HO:=Lib.hid ho
     have HG:=Lib.hid hg
     clear ho hg
     go_roundw
     case rel=>
      refine ⟨m+1,by omega,by omega,ao',cap',rfl,Lib.hid ⟨?_,?_⟩⟩
      ·exact (HR.out.1.alloc _).grown HG.out fun j hj=>by rw [← HSB.out.2];exact (owns_block HR.out.2 hj).1
      ·have h:=HO.out
       rw [HRP.out,←List.append_assoc,List.map_append]
       exact h
     case measure=>simp;omega
    ·obtain rfl:m=116:=by omega
     have hlk:(l9++List.replicate (116 - (10+n)) 0)=p.body:=by
      rw [HL9.out,HL8.out,HST.out.1,HF.out.2.2,HN.out]
      unfold Pc.body
      rw [show 116 - (10+p.d.length)=106 - p.d.length by omega]
     rw [hlk] at HR
     obtain ⟨s,hs⟩:∃ s,s=fsum p.body:=⟨_,rfl⟩
     have HS:Hid (fsum p.body=s∧s<4294967296):=Lib.hid ⟨hs.symm,by rw [hs];exact fsum_lt _⟩
     have HBL:Hid (p.body.length=116):=Lib.hid (Pc.body_length (by rw [← HN.out];exact hn106))
     have HBD:Hid (Bs wr (.slice aok 116 capk) p.body):=Lib.hid (by have h:=Rs.of_owns HR.out.2;unfold Bs;rw [HBL.out];exact h)
     clear hlk hs
     go_wp2_with fail
     refine (radd_c _ _ _ HBD.out).mono ?_
     rintro e w10 ⟨rfl,rfl⟩
     rw [HS.out.1]
     have hws:=p_u3264 HS.out.2
     go_wp2_with fail
     refine (rnumber_c s 4 w10 (by decide) (by have:=HS.out.2;omega)).mono ?_
     rintro e w11 ⟨nao,ncap,rfl,hx11,ho11⟩
     have HX11:=Lib.hid (HR.out.1.trans hx11)
     have HOO:=Lib.hid (owns_ext HR.out.2 hx11)
     have HN11:=Lib.hid (Rs.of_owns ho11)
     clear hx11 ho11 hws
     go_upto_region 14 with (first
      |(at_builtin;refine wpList_app rfl (.tmp 53) (.tmp 57) 31 rfl etBytes B rfl HOO.out rfl HN11.out (oneCell_bv _) (by omega) (by omega) (by have:=HX11.out.size;have:=HSB.out;omega) ?_;intro v12 w12 ho12 hg12 _)
      |fail)
     rw [← List.map_append] at ho12
     obtain ⟨ao12,cap12,rfl⟩:=owns_shape ho12
     have HX12:Hid (Ext w2 w12):=Lib.hid (HX11.out.grown hg12 (fun j hj=>by rw [← HSB.out.2];exact (owns_block HOO.out hj).1))
     have HO12:=Lib.hid ho12
     have HST12:Hid (Rs w12 1 (.slice sao 8 scap) 8 ((numL st 8).map bv)):=Lib.hid (by have h:=HO2.out.ext HX12.out;unfold Bs at h;rw [numL_length] at h;exact h)
     clear ho12 hg12
     go_wp2_with (first
      |(at_builtin;refine wpList_app rfl (.tmp 59) (.tmp 60) 31 rfl etBytes B rfl HO12.out rfl HST12.out (oneCell_bv _) (by omega) (by omega) (by have:=HX12.out.size;have:=HSB.out;omega) ?_;intro v13 w13 ho13 hg13 _)
      |fail)
     rw [← List.map_append] at ho13
     obtain ⟨ao13,cap13,rfl⟩:=owns_shape ho13
     have HX13:Hid (Ext w w13):=Lib.hid (HX2.out.trans (HX12.out.grown hg13 (fun j hj=>by rw [← HSB.out.2];exact (owns_block HO12.out hj).1)))
     have HSEC:Hid (w13.ownsRow w.heap.size 5 1 (.slice ao13 128 cap13) 128 (p.sec.map bv)):=Lib.hid (by
      have e:p.body++numL s 4++numL st 8=p.sec:=by rw [← HS.out.1,HST.out.1];rfl
      rw [e] at ho13
      exact owns_base ho13 (by rw [HSB.out.2];exact HX2.out.size))
     clear ho13 hg13
     go_wp2_with fail
     exact bodyPost_ret (v:=.tuple #[.slice ao13 128 cap13,.int .i64 0]) (by simp [results,Try.results67,go_sem]) rfl ⟨ao13,cap13,rfl,HX13.out,HSEC.out⟩
end Go.Proofs.Ytonomiljclemnaa
