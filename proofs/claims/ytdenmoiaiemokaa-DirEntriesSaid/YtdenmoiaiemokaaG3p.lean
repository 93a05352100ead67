/- G3. -/
import Derived.Test.YtdenmoiaiemokaaG2p
import Derived.Test.YtdenmoiaiemokaaG0p
import Derived.Maps.AppendAt
set_option linter.unusedVariables false
set_option linter.unusedSimpArgs false
namespace Go.Proofs.Ytdenmoiaiemokaa
open Go.RowKit
theorem val_snoc (c:List Bool) (b:Bool):val (c++[b])=val c * 2+b.toNat:=by
 rw [val_append,val_cons,val_nil];simp
theorem chunk_at (bl:List Bool) (i:Nat) (hi:i<bl.length):∃ a c,bl.take i=a++c∧a.length % 8=0∧c.length=i % 8∧bl.take (i+1)=a++(c++[bl[i]])∧a.length=i / 8 * 8:=by
 refine ⟨(bl.take i).take (i / 8 * 8),(bl.take i).drop (i / 8 * 8),(List.take_append_drop _ _).symm,?_,?_,?_,?_⟩
 ·rw [List.length_take,List.length_take];omega
 ·rw [List.length_drop,List.length_take];omega
 ·rw [← List.append_assoc,List.take_append_drop,List.take_succ_eq_append_getElem hi]
 ·rw [List.length_take,List.length_take];omega
def rawB (l:List Bool):List UInt8:=packed (l.take (l.length / 8 * 8))++if l.length % 8=0 then [] else [UInt8.ofNat (val (l.drop (l.length / 8 * 8)))]
theorem rawB_split {a c:List Bool} (ha:a.length % 8=0) (hc:c.length<8) (h0:c≠[]):rawB (a++c)=packed a++[UInt8.ofNat (val c)]:=by
 have hp:=List.length_pos_iff.2 h0
 unfold rawB
 rw [List.length_append,if_neg (by omega),show (a.length+c.length) / 8 * 8=a.length by omega,List.take_left,List.drop_left]
theorem rawB_whole {a:List Bool} (ha:a.length % 8=0):rawB a=packed a:=by
 unfold rawB
 rw [if_pos ha,show a.length / 8 * 8=a.length by omega,List.take_length,List.append_nil]
theorem rawB_eight {a c:List Bool} (ha:a.length % 8=0) (hc:c.length=8):rawB (a++c)=packed a++[UInt8.ofNat (val c)]:=by
 rw [rawB_whole (by rw [List.length_append];omega),packed_snoc ha (by omega) (by intro e;rw [e] at hc;cases hc)]
 simp [byteOf,byteN,hc]
theorem rawB_any {a c:List Bool} (ha:a.length % 8=0) (hc:c.length≤8) (h0:c≠[]):rawB (a++c)=packed a++[UInt8.ofNat (val c)]:=by
 rcases Nat.lt_or_ge c.length 8 with h|h
 ·exact rawB_split ha h h0
 ·exact rawB_eight ha (by omega)
theorem rb_num {x y z:Nat} (hx:x * 2<256) (hz:z=x * 2+y) (h:z<256):IntKind.u8.wrap ((x:Int) * 2)=(x:Int) * 2∧IntKind.u8.wrap ((x:Int) * 2+(y:Int))=(z:Int):=by
 rw [IntKind.wrap_u8',IntKind.wrap_u8']
 omega
set_option maxRecDepth 100000 in
set_option maxHeartbeats 4000000 in
theorem rbytes_c (v:Value) (bl:List Bool) (w:World) (h:Bs w v (bbs bl)) (hl:bl.length≤1000000):
  Calls Try.prog 157 #[v] w fun e w'=>∃ ao cap,e=.returned (.slice ao (packed bl).length cap)∧Ext w w'∧w'.ownsRow w.heap.size 5 1 (.slice ao (packed bl).length cap) (packed bl).length ((packed bl).map bv):=by
 obtain ⟨lo,lcap,rfl,l1,l2,l3,l4⟩:=h.open
 clear h
 obtain ⟨n,hn⟩:∃ n,n=bl.length:=⟨_,rfl⟩
 rw [bbs_length,←hn] at l1 l4 ⊢
 have HN:=Lib.hid hn
 have HC:=Lib.hid l4
 have HL3:=Lib.hid l3
 have hnb:n≤1000000:=by omega
 clear hn l4 l3 hl
 go_enter Try.func157,Try.ntmps157
 go_wp2_with fail
 go_loopw [3,4] (fun v i wr=>∃ (k:Nat) (ao:Option Addr) (cap m:Nat),k≤n∧i=.int .i64 k∧v=.slice ao m cap∧m=(k+7) / 8∧Ext w wr∧wr.ownsRow w.heap.size 5 1 (.slice ao m cap) m ((rawB (bl.take k)).map bv)) (fun _ i _=>n - (intOf i).toNat)
 case atStart=>exact ⟨0,none,0,0,Nat.zero_le _,rfl,rfl,rfl,Ext.refl w,by rw [List.take_zero];exact World.ownsRow_nil _ _ _ _⟩
 case round=>
  obtain ⟨i,ao,cap,m0,hk,rfl,rfl,hm0,hx,ho⟩:=hrel
  have HX:=Lib.hid hx
  have HO:=Lib.hid ho
  have HM0:=Lib.hid hm0
  clear hx ho hm0
  by_cases hlt:i<n
  ·obtain ⟨la,rfl⟩:∃ a,lo=some a:=by cases lo with|none=>have:=HL3.out rfl;omega|some a=>exact ⟨a,rfl⟩
   obtain ⟨a,c,t1,t2,t3,t4,t5⟩:=chunk_at bl i (by rw [← HN.out];exact hlt)
   obtain ⟨b,hb⟩:∃ b,b=bl[i]'(by rw [← HN.out];exact hlt):=⟨_,rfl⟩
   rw [← hb] at t4
   obtain ⟨m,hm⟩:∃ m,m=i / 8:=⟨_,rfl⟩
   have hpa:(packed a).length=m:=by rw [packed_length,t5];omega
   have hki:(i:Int)<(n:Int):=by omega
   have hcl0:=HC.out la rfl i hlt
   have hcl:w.cell? (la.add i)=some (.int .u8 ((bb b).toNat:Int)):=by
    rw [hcl0,hb]
    simp [bbs,List.getD,List.getElem?_eq_getElem (show i<bl.length by rw [← HN.out];exact hlt)]
   have HCL:=Lib.hid hcl
   have HCH:Hid (bl.take i=a++c∧a.length % 8=0∧c.length=i % 8∧bl.take (i+1)=a++(c++[b])∧(packed a).length=m):=Lib.hid ⟨t1,t2,t3,t4,hpa⟩
   have HM:=Lib.hid hm
   clear t1 t2 t3 t4 t5 hb hpa hcl0 hcl hm
   have HCH2:Hid (c=[]∨c≠[]):=Lib.hid (by by_cases h:c=[];exact .inl h;exact .inr h)
   by_cases h8:i % 8=0
   focus
    have hr:(i:Int) % 8=0:=by omega
    have hm0:m0=m:=by have:=HM0.out;have:=HM.out;omega
    have hc0:c=[]:=List.eq_nil_of_length_eq_zero (by rw [HCH.out.2.2.1];exact h8)
    have ho:=HO.out
    rw [HCH.out.1,hc0,List.append_nil,rawB_whole HCH.out.2.1,hm0] at ho
    have HOA:=Lib.hid ho
    have HC0:=Lib.hid hc0
    have HSZ:Hid (w.heap.size≤wr.heap.size∧m≤1000000):=Lib.hid ⟨HX.out.size,by have:=HM.out;omega⟩
    rw [hm0]
    clear h8 hm0 hc0 ho
    go_upto_region 7 with (first|(at_builtin;go_loud (refine wpList_app rfl (.tmp 17) (.tmp 18) 29 rfl etBytes w.heap.size rfl (owns_ext HOA.out ((Ext.refl wr).alloc _)) rfl (Rs.of_owns (owns_lit (n:=1) (size:=1) (cs:=#[bv 0]) rfl (Nat.le_refl _) (by decide))) (oneCell_bv [0]) (by have:=HSZ.out;omega) (by have:=HSZ.out;omega) (by have:=HSZ.out;simp;omega) ?_);intro v' W8 hown hgr _)|fail)
    have hx8:Ext w W8:=(HX.out.alloc _).grown hgr fun q hq=>(owns_block HOA.out hq).1
    obtain ⟨g,cap1,he,hg1,hg2⟩:=World.ownsRow.form hown (by omega)
    subst he
    have HROW:Hid (W8.ownsRow w.heap.size 5 1 (.slice (some ⟨g,0,none⟩) (m+1) cap1) (m+1) ((packed a++[UInt8.ofNat (val c)]).map bv)):=Lib.hid (by rw [HC0.out,List.map_append];exact hown)
    have HX8:=Lib.hid hx8
    clear hown hgr hx8 hg1 hg2 hr
   rotate_left
   focus
    have hr:((i:Int) % 8==0)=false:=by rw [beq_eq_false_iff_ne];omega
    have hm0:m0=m+1:=by have:=HM0.out;have:=HM.out;omega
    have hc0:c≠[]:=fun e=>by have:=HCH.out.2.2.1;rw [e] at this;simp at this;omega
    have ho:=HO.out
    rw [HCH.out.1,rawB_split HCH.out.2.1 (by rw [HCH.out.2.2.1];omega) hc0,hm0] at ho
    obtain ⟨g,cap1,he,hg1,hg2⟩:=World.ownsRow.form ho (by omega)
    simp only [Value.slice.injEq] at he
    obtain ⟨rfl,_,hcc⟩:=he
    rw [hcc] at ho ⊢
    have HX8:=Lib.hid HX.out
    have HROW:Hid (wr.ownsRow w.heap.size 5 1 (.slice (some ⟨g,0,none⟩) (m+1) cap1) (m+1) ((packed a++[UInt8.ofNat (val c)]).map bv)):=Lib.hid ho
    rw [hm0]
    clear h8 hm0 hc0 ho hg1 hg2 hcc
    go_upto_region 7 with fail
    clear hr
    clear HO HX
    rename World=>W8
   all_goals
    obtain ⟨x,hx⟩:∃ x,x=val c:=⟨_,rfl⟩
    obtain ⟨y,hy⟩:∃ y,y=(bb b).toNat:=⟨_,rfl⟩
    obtain ⟨z,hz⟩:∃ z,z=val (c++[b]):=⟨_,rfl⟩
    have hc7:c.length≤7:=by have:=HCH.out.2.2.1;omega
    have hx7:x<128:=by
     have h1:=val_lt c
     have h2:2 ^ c.length≤2 ^ 7:=Nat.pow_le_pow_right (by decide) hc7
     omega
    have hyb:y=b.toNat:=by rw [hy];cases b<;>rfl
    have hy1:y≤1:=by rw [hyb];cases b<;>decide
    have hzz:z=x * 2+y:=by rw [hz,val_snoc,hx,hyb]
    have HXY:=Lib.hid (rb_num (x:=x) (y:=y) (z:=z) (by omega) hzz (by omega))
    have cl:=HX8.out.cell HCL.out
    rw [← hy] at cl
    have cg:W8.cell? ⟨g,m,none⟩=some (.int .u8 (x:Int)):=by
     rw [World.ownsRow.cellAt HROW.out _ (by omega),List.map_append,List.getElem?_append_right (by rw [List.length_map,HCH.out.2.2.2.2];exact Nat.le_refl _),List.length_map,HCH.out.2.2.2.2,Nat.sub_self]
     simp only [List.map_cons,List.map_nil,List.getElem?_cons_zero,bv]
     rw [UInt8.toNat_ofNat',←hx,Nat.mod_eq_of_lt (by omega)]
    have HZ:=Lib.hid hz
    have HZB:Hid (z<256):=Lib.hid (by omega)
    have hml:(m:Int)<(m:Int)+1:=by omega
    have hmb:m≤1000000:=by have:=HM.out;omega
    clear hx hy hz hc7 hx7 hyb hy1 hzz
    go_wp2_with fail
    refine wp_region_rx 12 _
     [ex (.slice (some ⟨g,0,none⟩) (m+1) cap1),
      ex (.int .i64 (m:Int)),
      ex (.slice (some ⟨g,0,none⟩) (m+1) cap1),
      ex (.int .i64 (m:Int)),
      ex (.pointer (some ⟨g,m,none⟩)),
      ex (.int .u8 (x:Int)),
      ex (.int .u8 ((x * 2:Nat):Int)),
      ex (.slice (some la) n lcap),
      ex (.int .i64 (i:Int)),
      ex (.pointer (some (la.add i))),
      ex (.int .u8 (y:Int)),
      ex (.int .u8 (z:Int))]
     (by kernel_rfl) (by kernel_rfl) (by kernel_rfl) rfl ⟨ex_st,ex_st,ex_st,ex_st,ex_st,ex_st,ex_st,ex_st,ex_st,ex_st,ex_st,ex_st,trivial⟩ ?_ ?_
    ·simp only [List.take_succ_cons,List.take_zero]
     go_tidy
     refine RhOps.mk (RhOp.moveA (by decide) (.free rfl) 3 (fun _ w _=>Ext.refl w) rfl rfl (.slice (some ⟨g,0,none⟩) (m+1) cap1) rfl (fun _ _ _=>rfl)) ?_
     refine RhOps.mk (RhOp.moveA (by decide) (.free rfl) 5 (fun _ w _=>Ext.refl w) rfl rfl (.int .i64 (m:Int)) rfl (fun _ _ _=>rfl)) ?_
     refine RhOps.mk (RhOp.moveA (by decide) (.free rfl) 3 (fun _ w _=>Ext.refl w) rfl rfl (.slice (some ⟨g,0,none⟩) (m+1) cap1) rfl (fun _ _ _=>rfl)) ?_
     refine RhOps.mk (RhOp.moveA (by decide) (.free rfl) 5 (fun _ w _=>Ext.refl w) rfl rfl (.int .i64 (m:Int)) rfl (fun _ _ _=>rfl)) ?_
     refine RhOps.mk (RhOp.at (by decide) (.free rfl) ?_) ?_
     rotate_left
     refine RhOps.mk (RhOp.at (by decide) (.free rfl) ?_) ?_
     rotate_left
     refine RhOps.mk (RhOp.at (by decide) (.free rfl) ?_) ?_
     rotate_left
     refine RhOps.mk (RhOp.moveA (by decide) (.free rfl) 0 (fun _ w _=>Ext.refl w) rfl rfl (.slice (some la) n lcap) rfl (fun _ _ _=>rfl)) ?_
     refine RhOps.mk (RhOp.moveA (by decide) (.free rfl) 4 (fun _ w _=>Ext.refl w) rfl rfl (.int .i64 (i:Int)) rfl (fun _ _ _=>rfl)) ?_
     refine RhOps.mk (RhOp.at (by decide) (.free rfl) ?_) ?_
     rotate_left
     refine RhOps.mk (RhOp.at (by decide) (.free rfl) ?_) ?_
     rotate_left
     refine RhOps.mk (RhOp.at (by decide) (.free rfl) ?_) ?_
     rotate_left
     exact RhOps.done
     ·intro bb vals ρ w' hC hd hS
      have r25:ρ (.tmp 25)=.slice (some ⟨g,0,none⟩) (m+1) cap1:=(hS.tmp 25).trans (hd.at 2 rfl)
      have r26:ρ (.tmp 26)=.int .i64 (m:Int):=(hS.tmp 26).trans (hd.at 3 rfl)
      refine (show givesR _ _ _ _ (fun v w''=>Ext w' w''∧v=.pointer (some ⟨g,m,none⟩)) from ?_)
      clear hC hd hS
      go_simp
      exact Ext.refl _
     ·intro bb vals ρ w' hC hd hS
      have r27:ρ (.tmp 27)=.pointer (some ⟨g,m,none⟩):=(hS.tmp 27).trans (hd.at 4 rfl)
      have qc:=hC.cell cg
      refine (show givesR _ _ _ _ (fun v w''=>Ext w' w''∧v=.int .u8 (x:Int)) from ?_)
      clear hC hd hS
      go_simp
      exact Ext.refl _
     ·intro bb vals ρ w' hC hd hS
      have r28:ρ (.tmp 28)=.int .u8 (x:Int):=(hS.tmp 28).trans (hd.at 5 rfl)
      have rc:=hS.const
      refine (show givesR _ _ _ _ (fun v w''=>Ext w' w''∧v=.int .u8 ((x * 2:Nat):Int)) from ?_)
      clear hC hd hS
      go_simp
      exact ⟨Ext.refl _,HXY.out.1⟩
     ·intro bb vals ρ w' hC hd hS
      have r30:ρ (.tmp 30)=.slice (some la) n lcap:=(hS.tmp 30).trans (hd.at 7 rfl)
      have r31:ρ (.tmp 31)=.int .i64 (i:Int):=(hS.tmp 31).trans (hd.at 8 rfl)
      refine (show givesR _ _ _ _ (fun v w''=>Ext w' w''∧v=.pointer (some (la.add i))) from ?_)
      clear hC hd hS
      go_simp
      exact Ext.refl _
     ·intro bb vals ρ w' hC hd hS
      have r32:ρ (.tmp 32)=.pointer (some (la.add i)):=(hS.tmp 32).trans (hd.at 9 rfl)
      refine (show givesR _ _ _ _ (fun v w''=>Ext w' w''∧v=.int .u8 (y:Int)) from ?_)
      have qq:=hC.cell cl
      clear hC hd hS
      go_simp
      exact Ext.refl _
     ·intro bb vals ρ w' hC hd hS
      have r29:ρ (.tmp 29)=.int .u8 ((x * 2:Nat):Int):=(hS.tmp 29).trans (hd.at 6 rfl)
      have r33:ρ (.tmp 33)=.int .u8 (y:Int):=(hS.tmp 33).trans (hd.at 10 rfl)
      refine (show givesR _ _ _ _ (fun v w''=>Ext w' w''∧v=.int .u8 (z:Int)) from ?_)
      clear hC hd hS
      go_simp
      exact ⟨Ext.refl _,HXY.out.2⟩
    intro vals w' hC hV
    have e0:=hV 0 (by decide)
    have e1:=hV 1 (by decide)
    have e11:=hV 11 (by decide)
    simp only [vlist,ex,List.getD_cons_zero,List.getD_cons_succ] at e0 e1 e11
    have HC':=Lib.hid hC;clear hC hV
    simp only [List.drop_succ_cons,List.drop_zero]
    have hr2:=owns_ext HROW.out HC'.out
    have HR2:=Lib.hid hr2
    have HX9:=Lib.hid (HX8.out.trans HC'.out)
    have cg2:=HC'.out.cell cg
    have fg2:w'.frozen? ⟨g,m,none⟩=false:=World.ownsRow.frozenAt hr2 _
    clear hr2 cg cl
    go_wp2_with fail
    go_roundw
    case rel=>
     refine ⟨i+1,some ⟨g,0,none⟩,cap1,m+1,by omega,by go_num,rfl,by have:=HM.out;omega,HX9.out.setCell (by have:=(owns_block HR2.out (k:=g) rfl).1;exact this) _,?_⟩
     have h1:=(World.ownsRow.stored HR2.out m (.int .u8 (z:Int))).1
     rw [HCH.out.2.2.2.1,rawB_any HCH.out.2.1 (by have:=HCH.out.2.2.1;rw [List.length_append];simp;omega) (by simp)]
     have e:((packed a++[UInt8.ofNat (val c)]).map bv).set m (.int .u8 (z:Int))=(packed a++[UInt8.ofNat (val (c++[b]))]).map bv:=by
      rw [List.map_append,List.set_append_right _ _ (by rw [List.length_map,HCH.out.2.2.2.2];exact Nat.le_refl _),List.length_map,HCH.out.2.2.2.2,Nat.sub_self,List.map_append]
      have hzb:=HZB.out
      simp only [List.map_cons,List.map_nil,List.set_cons_zero,bv]
      rw [UInt8.toNat_ofNat',←HZ.out,Nat.mod_eq_of_lt (by omega)]
     rwa [e] at h1
    case measure=>simp [intOf];omega
  ·have hin:i=n:=by omega
   have htk:bl.take i=bl:=List.take_of_length_le (by rw [hin,HN.out];exact Nat.le_refl _)
   have ho:=HO.out
   rw [htk] at ho
   have hki:((i:Int)<(n:Int))=False:=eq_false (by omega)
   have hin2:(i:Int)=(n:Int):=by omega
   have HIN:=Lib.hid hin
   by_cases h8:n % 8=0
   ·have hpk:rawB bl=packed bl:=rawB_whole (by rw [← HN.out];exact h8)
    have hpl:(packed bl).length=m0:=by rw [packed_length,←HN.out];have:=HM0.out;omega
    rw [hpk] at ho
    have HO2:=Lib.hid ho
    have HPL:=Lib.hid hpl
    have hr:(n:Int) % 8=0:=by omega
    clear h8 hpk hpl ho htk hin hin2 hlt HO
    go_wp2_with fail
    go_loopw [6] (fun v w'=>v=.int .i64 n∧wr=w') (fun _ _=>0)
    case atStart=>exact ⟨rfl,rfl⟩
    case round=>
     obtain ⟨rfl,rfl⟩:=hrel
     go_wp2_with fail
     go_ret
     rw [HPL.out]
     exact ⟨ao,cap,rfl,HX.out,HO2.out⟩
   ·obtain ⟨a,c,e1,e2,e3⟩:∃ a c,bl=a++c∧a.length % 8=0∧c.length=n % 8:=
     ⟨bl.take (n / 8 * 8),bl.drop (n / 8 * 8),(List.take_append_drop _ _).symm,by rw [List.length_take,←HN.out];omega,by rw [List.length_drop,←HN.out];omega⟩
    have hc0:c≠[]:=fun e=>by rw [e] at e3;simp at e3;omega
    have hal:a.length=n / 8 * 8:=by have:=congrArg List.length e1;rw [List.length_append,←HN.out] at this;omega
    obtain ⟨m,hm⟩:∃ m,m=(packed a).length:=⟨_,rfl⟩
    have hpm:m=n / 8:=by rw [hm,packed_length,hal];omega
    have hm0:m0=m+1:=by have:=HM0.out;omega
    rw [e1,rawB_split e2 (by omega) hc0,hm0] at ho
    obtain ⟨g,cap1,he,hg1,hg2⟩:=World.ownsRow.form ho (by omega)
    simp only [Value.slice.injEq] at he
    obtain ⟨rfl,_,hcc⟩:=he
    rw [hcc] at ho ⊢
    rw [hm0]
    have HO2:=Lib.hid ho
    have HAC:Hid (bl=a++c∧a.length % 8=0∧c.length=n % 8∧c≠[]∧m=(packed a).length∧m≤1000000):=Lib.hid ⟨e1,e2,e3,hc0,hm,by omega⟩
    clear e1 e2 e3 hc0 hal hm hpm hm0 ho hcc hg1 hg2 htk hlt hin hin2 HO h8
    go_wp2_with fail
    go_loopw [6] (fun v w'=>∃ j:Nat,c.length+j≤8∧v=.int .i64 ((n:Int)+(j:Int))∧Ext w w'∧w'.ownsRow w.heap.size 5 1 (.slice (some ⟨g,0,none⟩) (m+1) cap1) (m+1) ((packed a++[UInt8.ofNat (val c * 2 ^ j)]).map bv)) (fun v _=>8+n - (intOf v).toNat)
    case atStart=>exact ⟨0,by have:=HAC.out.2.2.1;omega,by simp,HX.out,by simpa using HO2.out⟩
    case round=>
     obtain ⟨j,hj,rfl,hx,ho⟩:=hrel
     have HXJ:=Lib.hid hx
     have HOJ:=Lib.hid ho
     have HJ:=Lib.hid hj
     clear hx ho hj
     have hu:=HAC.out.2.2.1
     by_cases hq:c.length+j=8
     ·have hr:((n:Int)+(j:Int)) % 8=0:=by omega
      have hp:packed bl=packed a++[UInt8.ofNat (val c * 2 ^ j)]:=by
       rw [HAC.out.1,packed_snoc HAC.out.2.1 (by omega) HAC.out.2.2.2.1,byteOf,byteN,show 8 - c.length=j by omega]
      have hpl:(packed bl).length=m+1:=by rw [hp,List.length_append,←HAC.out.2.2.2.2.1];rfl
      have HP:=Lib.hid hp
      have HPL:=Lib.hid hpl
      clear hu hq hp hpl
      go_wp2_with fail
      go_ret
      rw [HPL.out]
      refine ⟨some ⟨g,0,none⟩,cap1,rfl,HXJ.out,?_⟩
      rw [HP.out]
      exact HOJ.out
     ·have hr:((n:Int)+(j:Int)) % 8≠0:=by have:=HJ.out;have:=List.length_pos_iff.2 HAC.out.2.2.2.1;omega
      have hr2:(((n:Int)+(j:Int)) % 8 != 0)=true:=by rw [bne_iff_ne];exact hr
      obtain ⟨x,hx⟩:∃ x,x=val c * 2 ^ j:=⟨_,rfl⟩
      have hx2:x * 2<256:=by
       have h1:val c * 2 ^ (j+1)<2 ^ c.length * 2 ^ (j+1):=Nat.mul_lt_mul_of_pos_right (val_lt c) (Nat.two_pow_pos _)
       rw [← Nat.pow_add] at h1
       have h2:2 ^ (c.length+(j+1))≤2 ^ 8:=Nat.pow_le_pow_right (by decide) (by have:=HJ.out;omega)
       rw [Nat.pow_succ,←Nat.mul_assoc,←hx] at h1
       omega
      have hxs:val c * 2 ^ (j+1)=x * 2:=by rw [Nat.pow_succ,←Nat.mul_assoc,←hx]
      have cg:_=some (Value.int .u8 (x:Int)):=(World.ownsRow.cellAt HOJ.out m (by omega)).trans (by
       rw [List.map_append,List.getElem?_append_right (by rw [List.length_map,←HAC.out.2.2.2.2.1];exact Nat.le_refl _),List.length_map,←HAC.out.2.2.2.2.1,Nat.sub_self]
       simp only [List.map_cons,List.map_nil,List.getElem?_cons_zero,bv]
       rw [UInt8.toNat_ofNat',←hx,Nat.mod_eq_of_lt (by omega)])
      have fg:=World.ownsRow.frozenAt HOJ.out m
      have hml:(m:Int)<(m:Int)+1:=by omega
      have hmb:m≤1000000:=HAC.out.2.2.2.2.2
      have hw2:(x:Int) * 2 % 256=(x:Int) * 2:=by omega
      have hw3:IntKind.u8.wrap ((x:Int) * 2)=(x:Int) * 2:=by rw [IntKind.wrap_u8'];omega
      have HXS:=Lib.hid hxs
      have HX2:=Lib.hid hx2
      have hjb:j≤8:=by have:=HJ.out;omega
      have HQ:=Lib.hid hq
      clear hu hq hr hx hxs hx2
      go_wp2_with fail
      go_roundw
      case rel=>
       have hj:=HJ.out
       have hq:=HQ.out
       refine ⟨j+1,by omega,by refine congrArg (Value.int .i64) ?_;omega,HXJ.out.setCell (by have:=(owns_block HOJ.out (k:=g) rfl).1;exact this) _,?_⟩
       have h1:=(World.ownsRow.stored HOJ.out m (.int .u8 ((x:Int) * 2))).1
       have e:((packed a++[UInt8.ofNat (val c * 2 ^ j)]).map bv).set m (.int .u8 ((x:Int) * 2))=(packed a++[UInt8.ofNat (val c * 2 ^ (j+1))]).map bv:=by
        rw [List.map_append,List.set_append_right _ _ (by rw [List.length_map,←HAC.out.2.2.2.2.1];exact Nat.le_refl _),List.length_map,←HAC.out.2.2.2.2.1,Nat.sub_self,List.map_append,HXS.out]
        have h2:=HX2.out
        simp only [List.map_cons,List.map_nil,List.set_cons_zero,bv]
        rw [UInt8.toNat_ofNat',Nat.mod_eq_of_lt (by omega)]
        push_cast;rfl
       rwa [e] at h1
      case measure=>
       have hj:=HJ.out
       have hp:=List.length_pos_iff.2 HAC.out.2.2.2.1
       simp only [intOf]
       omega
end Go.Proofs.Ytdenmoiaiemokaa
set_option linter.unusedVariables false
set_option linter.unusedSimpArgs false
namespace Go.Proofs.Ytdenmoiaiemokaa
open Go.RowKit
set_option maxRecDepth 100000 in
set_option maxHeartbeats 4000000 in
theorem rof_c (v:Value) (l:List UInt8) (w:World) (h:Bs w v l) (hl:l.length≤100000):
  Calls Try.prog 128 #[v] w fun e w'=>∃ ao cap,e=.returned (.slice ao (8 * l.length) cap)∧Ext w w'∧w'.ownsRow w.heap.size 5 1 (.slice ao (8 * l.length) cap) (8 * l.length) ((bbs (bitsAll l)).map bv):=by
 obtain ⟨lo,lcap,rfl,l1,l2,l3,l4⟩:=h.open
 clear h
 obtain ⟨n,hn⟩:∃ n,n=l.length:=⟨_,rfl⟩
 rw [← hn] at l1 l4 ⊢
 have HN:=Lib.hid hn
 have HC:=Lib.hid l4
 have HL3:=Lib.hid l3
 have hnb:n≤100000:=by omega
 clear hn l4 l3 hl
 go_enter Try.func128,Try.ntmps128
 go_wp2_with fail
 go_loopw [3,4] (fun v i wr=>∃ (k:Nat) (ao:Option Addr) (cap:Nat),k≤n∧i=.int .i64 k∧v=.slice ao (8 * k) cap∧Ext w wr∧wr.ownsRow w.heap.size 5 1 (.slice ao (8 * k) cap) (8 * k) ((bbs (bitsAll (l.take k))).map bv)) (fun _ i _=>n - (intOf i).toNat)
 case atStart=>exact ⟨0,none,0,Nat.zero_le _,rfl,rfl,Ext.refl w,World.ownsRow_nil _ _ _ _⟩
 case round=>
  obtain ⟨k,ao,cap,hk,rfl,rfl,hx,ho⟩:=hrel
  have HX:=Lib.hid hx
  have HO:=Lib.hid ho
  clear hx ho
  by_cases hlt:k<n
  ·obtain ⟨la,rfl⟩:∃ a,lo=some a:=by cases lo with|none=>have:=HL3.out rfl;omega|some a=>exact ⟨a,rfl⟩
   have hki:(k:Int)<(n:Int):=by omega
   have hcl:=HX.out.cell (HC.out la rfl k hlt)
   have HKL:Hid (k<l.length):=Lib.hid (by rw [← HN.out];exact hlt)
   have hbs:=bitsAll_take_succ l k HKL.out
   generalize l.getD k 0=b at hcl hbs
   have HBS:=Lib.hid hbs
   have hb8:b.toNat<256:=UInt8.toNat_lt _
   have HB8:=Lib.hid hb8
   clear hbs hb8
   go_wp2_with fail
   rw [IntKind.wrap_u64,Int.emod_eq_of_lt (by omega) (by have:=HB8.out;omega)]
   refine (rbits_c b.toNat 8 _ (by decide) (by have:=HB8.out;omega)).mono ?_
   rintro e w2 ⟨bo,bcap,rfl,hx2,ho2⟩
   have HX2:=Lib.hid hx2
   have HO2:=Lib.hid ho2
   have HO3:=Lib.hid (owns_ext HO.out hx2)
   have HSZ:Hid (w.heap.size≤w2.heap.size∧k≤100000):=Lib.hid ⟨Nat.le_trans HX.out.size hx2.size,by omega⟩
   clear hx2 ho2
   obtain ⟨q,hq⟩:∃ q,q=8 * k:=⟨_,rfl⟩
   rw [← hq] at HO3 ⊢
   have HQ:=Lib.hid hq
   clear hq
   go_wp2_with (first|(at_builtin;go_loud (refine wpList_app rfl (.tmp 11) (.tmp 17) 29 rfl etBytes w.heap.size rfl HO3.out rfl (Rs.of_owns HO2.out) (oneCell_bv _) (by have:=HSZ.out;have:=HQ.out;omega) (by have:=HSZ.out;have:=HQ.out;omega) (by have:=HSZ.out;omega) ?_);intro v' w3 hown hgr _)|fail)
   have hx3:Ext w w3:=(HX.out.trans HX2.out).grown hgr fun i hi=>(owns_block HO3.out hi).1
   obtain ⟨no,ncap,rfl⟩:=owns_shape hown
   have HOWN:=Lib.hid hown
   have HX3:=Lib.hid hx3
   clear hown hgr hx3
   go_roundw
   case rel=>
    have hq:=HQ.out
    refine ⟨k+1,no,ncap,by omega,by go_num,by rw [show 8 * (k+1)=q+8 by omega],HX3.out,?_⟩
    rw [show 8 * (k+1)=q+8 by omega,HBS.out,bbs_append,List.map_append]
    exact HOWN.out
   case measure=>simp [intOf];omega
  ·have hkn:k=n:=by omega
   have hki:((k:Int)<(n:Int))=False:=eq_false (by omega)
   subst hkn
   clear hlt
   go_wp2_with fail
   go_ret
   refine ⟨ao,cap,rfl,HX.out,?_⟩
   have:=HO.out
   rwa [List.take_of_length_le (by rw [← HN.out];exact Nat.le_refl _)] at this
theorem num_step {x y n:Nat} (hx:x * 2+y<2 ^ n) (hn:n≤64):IntKind.u64.wrap (IntKind.u64.wrap ((x:Int) * 2)+(y:Int))=((x * 2+y:Nat):Int):=by
 have h:2 ^ n≤2 ^ 64:=Nat.pow_le_pow_right (by decide) hn
 have h2:x * 2+y<18446744073709551616:=Nat.lt_of_lt_of_le hx h
 rw [IntKind.wrap_u64,IntKind.wrap_u64]
 omega
set_option maxRecDepth 100000 in
set_option maxHeartbeats 4000000 in
theorem rnum_c (v:Value) (bl:List Bool) (w:World) (h:Bs w v (bbs bl)) (hl:bl.length≤64):
  Calls Try.prog 159 #[v] w fun e w'=>e=.returned (.int .u64 (val bl:Int))∧w=w':=by
 obtain ⟨lo,lcap,rfl,l1,l2,l3,l4⟩:=h.open
 clear h
 obtain ⟨n,hn⟩:∃ n,n=bl.length:=⟨_,rfl⟩
 rw [bbs_length,←hn] at l1 l4 ⊢
 have HN:=Lib.hid hn
 have HC:=Lib.hid l4
 have HL3:=Lib.hid l3
 have hnb:n≤64:=by omega
 clear hn l4 l3 hl
 go_enter Try.func159,Try.ntmps159
 go_wp2_with fail
 go_loopw [3,4] (fun x i wr=>∃ k:Nat,k≤n∧i=.int .i64 k∧x=.int .u64 (val (bl.take k):Int)∧w=wr) (fun _ i _=>n - (intOf i).toNat)
 case atStart=>exact ⟨0,Nat.zero_le _,rfl,rfl,rfl⟩
 case round=>
  obtain ⟨k,hk,rfl,rfl,rfl⟩:=hrel
  by_cases hlt:k<n
  ·obtain ⟨la,rfl⟩:∃ a,lo=some a:=by cases lo with|none=>have:=HL3.out rfl;omega|some a=>exact ⟨a,rfl⟩
   have hki:(k:Int)<(n:Int):=by omega
   have hkl:k<bl.length:=by rw [← HN.out];exact hlt
   have hcl:=HC.out la rfl k hlt
   have hb:((bbs bl).getD k 0).toNat=(bl[k]'hkl).toNat:=by
    simp [bbs,List.getD,List.getElem?_eq_getElem hkl]
    cases bl[k]'hkl<;>rfl
   rw [hb] at hcl
   have hv:val (bl.take (k+1))=val (bl.take k) * 2+(bl[k]'hkl).toNat:=by
    rw [List.take_succ_eq_append_getElem hkl,val_append,val_cons,val_nil];simp
   have hlt2:=val_lt (bl.take (k+1))
   rw [hv,List.length_take] at hlt2
   generalize (bl[k]'hkl).toNat=y at hcl hv hlt2
   generalize val (bl.take k)=x at hv hlt2 ⊢
   have hst:=num_step hlt2 (by omega)
   have HV:=Lib.hid hv
   have hy:IntKind.u64.wrap (y:Int)=(y:Int):=by
    have h:2 ^ min (k+1) bl.length≤2 ^ 64:=Nat.pow_le_pow_right (by decide) (by omega)
    have h2:x * 2+y<18446744073709551616:=Nat.lt_of_lt_of_le hlt2 h
    rw [IntKind.wrap_u64];omega
   clear hv hlt2 hb hkl
   go_wp2_with fail
   go_roundw
   case rel=>
    refine ⟨k+1,by omega,by go_num,?_,trivial⟩
    rw [HV.out]
    first|rfl|exact congrArg (Value.int .u64) hst
   case measure=>simp [intOf];omega
  ·have hkn:k=n:=by omega
   have hki:((k:Int)<(n:Int))=False:=eq_false (by omega)
   have htk:bl.take k=bl:=List.take_of_length_le (by rw [← HN.out];omega)
   rw [htk]
   clear hlt hkn htk
   go_wp2_with fail
   go_ret
   exact ⟨rfl,rfl⟩
end Go.Proofs.Ytdenmoiaiemokaa
set_option linter.unusedVariables false
set_option linter.unusedSimpArgs false
namespace Go.Proofs.Ytdenmoiaiemokaa
open Go.RowKit
section
variable {w w':World} {B xb:Nat} {bs:List Bool} {err:Int}
end
def rgetOk (bs:List Bool) (err n:Int):Prop:=err=0∧0≤n∧n≤64∧n≤(bs.length:Int)
instance (bs:List Bool) (err n:Int):Decidable (rgetOk bs err n):=by unfold rgetOk;infer_instance
def rgetV (bs:List Bool) (err n:Int):Nat:=if rgetOk bs err n then val (bs.take n.toNat) else 0
def rgetL (bs:List Bool) (err n:Int):List Bool:=if rgetOk bs err n then bs.drop n.toNat else bs
def rgetE (bs:List Bool) (err n:Int):Int:=if err≠0 then err else if n<0∨64<n then 2 else if (bs.length:Int)<n then 3 else 0
end Go.Proofs.Ytdenmoiaiemokaa
set_option linter.unusedVariables false
set_option linter.unusedSimpArgs false
namespace Go.Proofs.Ytdenmoiaiemokaa
open Go.RowKit
end Go.Proofs.Ytdenmoiaiemokaa
set_option linter.unusedVariables false
set_option linter.unusedSimpArgs false
namespace Go.Proofs.Ytdenmoiaiemokaa
open Go.RowKit
end Go.Proofs.Ytdenmoiaiemokaa
set_option linter.unusedVariables false
set_option linter.unusedSimpArgs false
namespace Go.Proofs.Ytdenmoiaiemokaa
open Go.RowKit
section
variable {P:Program}
theorem run_app_at {w:World} {t ty e:TypeId} {size bytes base:Nat} (hE:ElemT P t e size bytes) {v:Value} {n:Nat} {xs:List Value} (hown:w.ownsRow base e size v n xs)
  {u:Value} {m:Nat} {news:List Value} (hR:Rs w size u m news) (h1:∀ u∈news,u.oneCell'=true)
  (h63:n+m≤9223372036854775807) (hbytes:(n+m) * bytes≤140737488355328) (hbase:base≤w.heap.size):
  ∃ v' w',(Builtin.append_ #[t,t] ty #[v,u]).run P w=.ok v' w'∧w'.ownsRow base e size v' (n+m) (xs++news)∧w.grownBy w' v.ownBlock∧(v'.ownBlock=v.ownBlock∨v'.ownBlock=some w.heap.size):=by
 obtain ⟨i,z,h2,h3,h4,h5,h6,h7,h8⟩:=hE
 obtain ⟨ao,cap,rfl,r1,r2,r3,r4,r5⟩:=hR.open
 cases ao with
 |none=>
  have hc:=r3 rfl
  subst hc
  have hm:m=0:=by omega
  subst hm
  have hn:news=[]:=List.eq_nil_of_length_eq_zero (by simpa using r4)
  subst hn
  exact ⟨v,w,run_append_owned_none (P:=P) (w:=w) base t ty e i size h2 h3 v n xs hown,by simpa using hown,⟨rfl,rfl,rfl,Nat.le_refl _,fun _ _ _=>rfl⟩,.inl rfl⟩
 |some ad=>
  obtain ⟨v',w',hr,q2,q3,_,q5⟩:=run_append_own_at (P:=P) w base t ty e i z size bytes h2 h3 h4 h5 h6 h7 h8 v n xs hown ad m cap news r4 (r5 ad rfl) h1 (by simpa [maxLen] using h63) hbytes hbase
  exact ⟨v',w',hr,q2,q3,q5⟩
end
theorem WrF.lt {w:World} {B wb:Nat} {l:List Bool} {err:Int} (h:WrIs w B wb l err) {q:Nat} (hq:WrF w wb q):q<w.heap.size:=by
 have hlt:=h.lt
 obtain ⟨ao,cap,h1,h2,h3⟩:=h
 rcases hq with rfl|⟨v,q1,q2⟩
 ·exact hlt
 ·rw [cell_of_blk h1] at q1
  simp only [List.size_toArray,List.getElem?_toArray,List.getElem?_cons_succ,List.getElem?_cons_zero,Option.some.injEq] at q1
  subst q1
  exact (owns_block h3 q2).2
end Go.Proofs.Ytdenmoiaiemokaa
set_option linter.unusedVariables false
set_option linter.unusedSimpArgs false
namespace Go.Proofs.Ytdenmoiaiemokaa
open Go.RowKit
end Go.Proofs.Ytdenmoiaiemokaa
set_option linter.unusedVariables false
set_option linter.unusedSimpArgs false
namespace Go.Proofs.Ytdenmoiaiemokaa
open Go.RowKit
theorem getV_eq (l:List UInt8) (at':Nat) (err n:Int) (ha:at'≤8 * l.length):rgetV ((bitsAll l).drop at') err n=getV l at' err n∧rgetL ((bitsAll l).drop at') err n=(bitsAll l).drop (getAt l at' err n)∧rgetE ((bitsAll l).drop at') err n=getE l at' err n:=by
 have hl:((bitsAll l).drop at').length=8 * l.length - at':=by rw [List.length_drop,bitsAll_length]
 have hc:rgetOk ((bitsAll l).drop at') err n↔(err=0∧0≤n∧n≤64∧(at':Int)+n≤8 * (l.length:Int)):=by
  unfold rgetOk
  rw [hl]
  omega
 refine ⟨?_,?_,?_⟩
 ·unfold rgetV getV
  by_cases h:rgetOk ((bitsAll l).drop at') err n
  ·rw [if_pos h,if_pos (hc.1 h)];rfl
  ·rw [if_neg h,if_neg (fun h'=>h (hc.2 h'))]
 ·unfold rgetL getAt
  by_cases h:rgetOk ((bitsAll l).drop at') err n
  ·rw [if_pos h,if_pos (hc.1 h),List.drop_drop]
  ·rw [if_neg h,if_neg (fun h'=>h (hc.2 h'))]
 ·unfold rgetE getE
  rw [hl]
  by_cases h0:err≠0
  ·rw [if_pos h0,if_pos h0]
  ·rw [if_neg h0,if_neg h0]
   by_cases h1:n<0∨64<n
   ·rw [if_pos h1,if_pos h1]
   ·rw [if_neg h1,if_neg h1]
    by_cases h2:8 * (l.length:Int)<(at':Int)+n
    ·rw [if_pos h2,if_pos (by omega)]
    ·rw [if_neg h2,if_neg (by omega)]
theorem getAt_le (l:List UInt8) (at':Nat) (err n:Int) (ha:at'≤8 * l.length):getAt l at' err n≤8 * l.length:=by
 unfold getAt
 split<;>omega
end Go.Proofs.Ytdenmoiaiemokaa
