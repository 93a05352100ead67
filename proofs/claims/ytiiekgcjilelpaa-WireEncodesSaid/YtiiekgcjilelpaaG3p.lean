/- G3. -/
import Derived.Test.YtiiekgcjilelpaaG2p
import Derived.Test.YtiiekgcjilelpaaG0p
import Derived.Maps.AppendAt
open List renaming getElem?_append_right → zac, length_append → zae, length_take → zam, take_of_length_le → zaq, getElem?_cons_zero → zau, length_drop → zav, eq_nil_of_length_eq_zero → zaw, map_cons → zay, map_append → zba, length_map → zbd
open Nat renaming le_refl → zbm
open Array renaming getElem?_eq_some_iff → zbp
set_option linter.unusedSimpArgs false
set_option linter.unusedVariables false
namespace Go.Proofs.Ytiiekgcjilelpaa
open Go.RowKit
theorem val_snoc (c:List Bool) (b:Bool):val (c++[b])=val c * 2+b.toNat:=by
 rw [yge,yhf,yh3];simp
theorem chunk_at (bl:List Bool) (i:Nat) (hi:i<bl.length):∃ a c,bl.take i=a++c∧a.length % 8=0∧c.length=i % 8∧bl.take (i+1)=a++(c++[bl[i]])∧a.length=i / 8 * 8:=by
 refine ⟨(bl.take i).take (i / 8 * 8),(bl.take i).drop (i / 8 * 8),(List.take_append_drop _ _).symm,?_,?_,?_,?_⟩
 ·rw [zam,zam];omega
 ·rw [zav,zam];omega
 ·rw [← List.append_assoc,List.take_append_drop,List.take_succ_eq_append_getElem hi]
 ·rw [zam,zam];omega
def rawB (l:List Bool):List UInt8:=yao (l.take (l.length / 8 * 8))++if l.length % 8=0 then [] else [UInt8.ofNat (val (l.drop (l.length / 8 * 8)))]
theorem yic {a c:List Bool} (ha:a.length % 8=0) (hc:c.length<8) (h0:c≠[]):rawB (a++c)=yao a++[UInt8.ofNat (val c)]:=by
 have hp:=List.length_pos_iff.2 h0
 unfold rawB
 rw [zae,if_neg (by omega),show (a.length+c.length) / 8 * 8=a.length by omega,List.take_left,List.drop_left]
theorem yib {a:List Bool} (ha:a.length % 8=0):rawB a=yao a:=by
 unfold rawB
 rw [if_pos ha,show a.length / 8 * 8=a.length by omega,List.take_length,List.append_nil]
theorem yvo {a c:List Bool} (ha:a.length % 8=0) (hc:c.length=8):rawB (a++c)=yao a++[UInt8.ofNat (val c)]:=by
 rw [yib (by rw [zae];omega),yfc ha (by omega) (by intro e;rw [e] at hc;cases hc)]
 simp [yfn,yd3,hc]
theorem rawB_any {a c:List Bool} (ha:a.length % 8=0) (hc:c.length≤8) (h0:c≠[]):rawB (a++c)=yao a++[UInt8.ofNat (val c)]:=by
 rcases Nat.lt_or_ge c.length 8 with h|h
 ·exact yic ha h h0
 ·exact yvo ha (by omega)
theorem rb_num {x y z:Nat} (hx:x * 2<256) (hz:z=x * 2+y) (h:z<256):IntKind.u8.wrap ((x:Int) * 2)=(x:Int) * 2∧IntKind.u8.wrap ((x:Int) * 2+(y:Int))=(z:Int):=by
 rw [IntKind.wrap_u8',IntKind.wrap_u8']
 omega
set_option maxRecDepth 100000 in
set_option maxHeartbeats 4000000 in
theorem rbytes_c (v:Value) (bl:List Bool) (w:World) (h:Bs w v (bbs bl)) (hl:bl.length≤1000000):
  Calls Try.prog 125 #[v] w fun e w'=>∃ ao cap,e=.returned (.slice ao (yao bl).length cap)∧Ext w w'∧w'.ownsRow w.heap.size 5 1 (.slice ao (yao bl).length cap) (yao bl).length ((yao bl).map bv):=by
 obtain ⟨lo,lcap,rfl,l1,l2,l3,l4⟩:=h.open
 clear h
 obtain ⟨n,hn⟩:∃ n,n=bl.length:=⟨_,rfl⟩
 rw [ycg,←hn] at l1 l4 ⊢
 have HN:=Lib.hid hn
 have HC:=Lib.hid l4
 have HL3:=Lib.hid l3
 have hnb:n≤1000000:=by omega
 clear hn l4 l3 hl
 go_enter Try.func125,Try.ntmps125
 go_wp2_with fail
 go_loopw [3,4] (fun v i wr=>∃ (k:Nat) (ao:Option Addr) (cap m:Nat),k≤n∧i=.int .i64 k∧v=.slice ao m cap∧m=(k+7) / 8∧Ext w wr∧wr.ownsRow w.heap.size 5 1 (.slice ao m cap) m ((rawB (bl.take k)).map bv)) (fun _ i _=>n - (intOf i).toNat)
 case atStart=>exact ⟨0,none,0,0,Nat.zero_le _,rfl,rfl,rfl,Ext.refl w,by rw [List.take_zero];exact World.ownsRow_nil _ _ _ _⟩
 case round=>
  obtain ⟨i,ao,cap,m0,hk,rfl,rfl,hm0,hx,ho⟩:=hrel
  have HX:=Lib.hid hx
  have HO:=Lib.hid ho
  have HM0:=Lib.hid hm0
  clear hx ho hm0
  by_cases hlt:i<n
  ·obtain ⟨la,rfl⟩:∃ a,lo=some a:=by cases lo with|none=>have:=HL3.out rfl;omega|some a=>exact ⟨a,rfl⟩
   obtain ⟨a,c,t1,t2,t3,t4,t5⟩:=chunk_at bl i (by rw [← HN.out];exact hlt)
   obtain ⟨b,hb⟩:∃ b,b=bl[i]'(by rw [← HN.out];exact hlt):=⟨_,rfl⟩
   rw [← hb] at t4
   obtain ⟨m,hm⟩:∃ m,m=i / 8:=⟨_,rfl⟩
   have hpa:(yao a).length=m:=by rw [yco,t5];omega
   have hki:(i:Int)<(n:Int):=by omega
   have hcl0:=HC.out la rfl i hlt
   have hcl:w.cell? (la.add i)=some (.int .u8 ((bb b).toNat:Int)):=by
    rw [hcl0,hb]
    simp [bbs,List.getD,List.getElem?_eq_getElem (show i<bl.length by rw [← HN.out];exact hlt)]
   have HCL:=Lib.hid hcl
   have HCH:Hid (bl.take i=a++c∧a.length % 8=0∧c.length=i % 8∧bl.take (i+1)=a++(c++[b])∧(yao a).length=m):=Lib.hid ⟨t1,t2,t3,t4,hpa⟩
   have HM:=Lib.hid hm
   clear t1 t2 t3 t4 t5 hb hpa hcl0 hcl hm
   have HCH2:Hid (c=[]∨c≠[]):=Lib.hid (by by_cases h:c=[];exact .inl h;exact .inr h)
   by_cases h8:i % 8=0
   focus
    have hr:(i:Int) % 8=0:=by omega
    have hm0:m0=m:=by have:=HM0.out;have:=HM.out;omega
    have hc0:c=[]:=zaw (by rw [HCH.out.2.2.1];exact h8)
    have ho:=HO.out
    rw [HCH.out.1,hc0,List.append_nil,yib HCH.out.2.1,hm0] at ho
    have HOA:=Lib.hid ho
    have HC0:=Lib.hid hc0
    have HSZ:Hid (w.heap.size≤wr.heap.size∧m≤1000000):=Lib.hid ⟨HX.out.size,by have:=HM.out;omega⟩
    rw [hm0]
    clear h8 hm0 hc0 ho
    go_upto_region 7 with (first|(at_builtin;go_loud (refine yek rfl (.tmp 17) (.tmp 18) 37 rfl ydp w.heap.size rfl (ycs HOA.out ((Ext.refl wr).alloc _)) rfl (Rs.of_owns (yds (n:=1) (size:=1) (cs:=#[bv 0]) rfl (zbm _) (by decide))) (yb3 [0]) (by have:=HSZ.out;omega) (by have:=HSZ.out;omega) (by have:=HSZ.out;simp;omega) ?_);intro v' W8 hown hgr _)|fail)
    have hx8:Ext w W8:=(HX.out.alloc _).grown hgr fun q hq=>(yar HOA.out hq).1
    obtain ⟨g,cap1,he,hg1,hg2⟩:=World.ownsRow.form hown (by omega)
    subst he
    have HROW:Hid (W8.ownsRow w.heap.size 5 1 (.slice (some ⟨g,0,none⟩) (m+1) cap1) (m+1) ((yao a++[UInt8.ofNat (val c)]).map bv)):=Lib.hid (by rw [HC0.out,zba];exact hown)
    have HX8:=Lib.hid hx8
    clear hown hgr hx8 hg1 hg2 hr
   rotate_left
   focus
    have hr:((i:Int) % 8==0)=false:=by rw [beq_eq_false_iff_ne];omega
    have hm0:m0=m+1:=by have:=HM0.out;have:=HM.out;omega
    have hc0:c≠[]:=fun e=>by have:=HCH.out.2.2.1;rw [e] at this;simp at this;omega
    have ho:=HO.out
    rw [HCH.out.1,yic HCH.out.2.1 (by rw [HCH.out.2.2.1];omega) hc0,hm0] at ho
    obtain ⟨g,cap1,he,hg1,hg2⟩:=World.ownsRow.form ho (by omega)
    simp only [Value.slice.injEq] at he
    obtain ⟨rfl,_,hcc⟩:=he
    rw [hcc] at ho ⊢
    have HX8:=Lib.hid HX.out
    have HROW:Hid (wr.ownsRow w.heap.size 5 1 (.slice (some ⟨g,0,none⟩) (m+1) cap1) (m+1) ((yao a++[UInt8.ofNat (val c)]).map bv)):=Lib.hid ho
    rw [hm0]
    clear h8 hm0 hc0 ho hg1 hg2 hcc
    go_upto_region 7 with fail
    clear hr
    clear HO HX
    rename World=>W8
   all_goals
    obtain ⟨x,hx⟩:∃ x,x=val c:=⟨_,rfl⟩
    obtain ⟨y,hy⟩:∃ y,y=(bb b).toNat:=⟨_,rfl⟩
    obtain ⟨z,hz⟩:∃ z,z=val (c++[b]):=⟨_,rfl⟩
    have hc7:c.length≤7:=by have:=HCH.out.2.2.1;omega
    have hx7:x<128:=by
     have h1:=yly c
     have h2:2 ^ c.length≤2 ^ 7:=Nat.pow_le_pow_right (by decide) hc7
     omega
    have hyb:y=b.toNat:=by rw [hy];cases b<;>rfl
    have hy1:y≤1:=by rw [hyb];cases b<;>decide
    have hzz:z=x * 2+y:=by rw [hz,val_snoc,hx,hyb]
    have HXY:=Lib.hid (rb_num (x:=x) (y:=y) (z:=z) (by omega) hzz (by omega))
    have cl:=HX8.out.cell HCL.out
    rw [← hy] at cl
    have cg:W8.cell? ⟨g,m,none⟩=some (.int .u8 (x:Int)):=by
     rw [World.ownsRow.cellAt HROW.out _ (by omega),zba,zac (by rw [zbd,HCH.out.2.2.2.2];exact zbm _),zbd,HCH.out.2.2.2.2,Nat.sub_self]
     simp only [zay,List.map_nil,zau,bv]
     rw [UInt8.toNat_ofNat',←hx,Nat.mod_eq_of_lt (by omega)]
    have HZ:=Lib.hid hz
    have HZB:Hid (z<256):=Lib.hid (by omega)
    have hml:(m:Int)<(m:Int)+1:=by omega
    have hmb:m≤1000000:=by have:=HM.out;omega
    clear hx hy hz hc7 hx7 hyb hy1 hzz
    go_wp2_with fail
    refine ycl 12 _
     [ex (.slice (some ⟨g,0,none⟩) (m+1) cap1),
      ex (.int .i64 (m:Int)),
      ex (.slice (some ⟨g,0,none⟩) (m+1) cap1),
      ex (.int .i64 (m:Int)),
      ex (.pointer (some ⟨g,m,none⟩)),
      ex (.int .u8 (x:Int)),
      ex (.int .u8 ((x * 2:Nat):Int)),
      ex (.slice (some la) n lcap),
      ex (.int .i64 (i:Int)),
      ex (.pointer (some (la.add i))),
      ex (.int .u8 (y:Int)),
      ex (.int .u8 (z:Int))]
     (by kernel_rfl) (by kernel_rfl) (by kernel_rfl) rfl ⟨yaq,yaq,yaq,yaq,yaq,yaq,yaq,yaq,yaq,yaq,yaq,yaq,trivial⟩ ?_ ?_
    ·simp only [List.take_succ_cons,List.take_zero]
     go_tidy
     refine RhOps.mk (RhOp.moveA (by decide) (.free rfl) 3 (fun _ w _=>Ext.refl w) rfl rfl (.slice (some ⟨g,0,none⟩) (m+1) cap1) rfl (fun _ _ _=>rfl)) ?_
     refine RhOps.mk (RhOp.moveA (by decide) (.free rfl) 5 (fun _ w _=>Ext.refl w) rfl rfl (.int .i64 (m:Int)) rfl (fun _ _ _=>rfl)) ?_
     refine RhOps.mk (RhOp.moveA (by decide) (.free rfl) 3 (fun _ w _=>Ext.refl w) rfl rfl (.slice (some ⟨g,0,none⟩) (m+1) cap1) rfl (fun _ _ _=>rfl)) ?_
     refine RhOps.mk (RhOp.moveA (by decide) (.free rfl) 5 (fun _ w _=>Ext.refl w) rfl rfl (.int .i64 (m:Int)) rfl (fun _ _ _=>rfl)) ?_
     refine RhOps.mk (RhOp.at (by decide) (.free rfl) ?_) ?_
     rotate_left
     refine RhOps.mk (RhOp.at (by decide) (.free rfl) ?_) ?_
     rotate_left
     refine RhOps.mk (RhOp.at (by decide) (.free rfl) ?_) ?_
     rotate_left
     refine RhOps.mk (RhOp.moveA (by decide) (.free rfl) 0 (fun _ w _=>Ext.refl w) rfl rfl (.slice (some la) n lcap) rfl (fun _ _ _=>rfl)) ?_
     refine RhOps.mk (RhOp.moveA (by decide) (.free rfl) 4 (fun _ w _=>Ext.refl w) rfl rfl (.int .i64 (i:Int)) rfl (fun _ _ _=>rfl)) ?_
     refine RhOps.mk (RhOp.at (by decide) (.free rfl) ?_) ?_
     rotate_left
     refine RhOps.mk (RhOp.at (by decide) (.free rfl) ?_) ?_
     rotate_left
     refine RhOps.mk (RhOp.at (by decide) (.free rfl) ?_) ?_
     rotate_left
     exact RhOps.done
     ·intro bb vals ρ w' hC hd hS
      have r25:ρ (.tmp 25)=.slice (some ⟨g,0,none⟩) (m+1) cap1:=(hS.tmp 25).trans (hd.at 2 rfl)
      have r26:ρ (.tmp 26)=.int .i64 (m:Int):=(hS.tmp 26).trans (hd.at 3 rfl)
      refine (show yap _ _ _ _ (fun v w''=>Ext w' w''∧v=.pointer (some ⟨g,m,none⟩)) from ?_)
      clear hC hd hS
      go_simp
      exact Ext.refl _
     ·intro bb vals ρ w' hC hd hS
      have r27:ρ (.tmp 27)=.pointer (some ⟨g,m,none⟩):=(hS.tmp 27).trans (hd.at 4 rfl)
      have qc:=hC.cell cg
      refine (show yap _ _ _ _ (fun v w''=>Ext w' w''∧v=.int .u8 (x:Int)) from ?_)
      clear hC hd hS
      go_simp
      exact Ext.refl _
     ·intro bb vals ρ w' hC hd hS
      have r28:ρ (.tmp 28)=.int .u8 (x:Int):=(hS.tmp 28).trans (hd.at 5 rfl)
      have rc:=hS.const
      refine (show yap _ _ _ _ (fun v w''=>Ext w' w''∧v=.int .u8 ((x * 2:Nat):Int)) from ?_)
      clear hC hd hS
      go_simp
      exact ⟨Ext.refl _,HXY.out.1⟩
     ·intro bb vals ρ w' hC hd hS
      have r30:ρ (.tmp 30)=.slice (some la) n lcap:=(hS.tmp 30).trans (hd.at 7 rfl)
      have r31:ρ (.tmp 31)=.int .i64 (i:Int):=(hS.tmp 31).trans (hd.at 8 rfl)
      refine (show yap _ _ _ _ (fun v w''=>Ext w' w''∧v=.pointer (some (la.add i))) from ?_)
      clear hC hd hS
      go_simp
      exact Ext.refl _
     ·intro bb vals ρ w' hC hd hS
      have r32:ρ (.tmp 32)=.pointer (some (la.add i)):=(hS.tmp 32).trans (hd.at 9 rfl)
      refine (show yap _ _ _ _ (fun v w''=>Ext w' w''∧v=.int .u8 (y:Int)) from ?_)
      have qq:=hC.cell cl
      clear hC hd hS
      go_simp
      exact Ext.refl _
     ·intro bb vals ρ w' hC hd hS
      have r29:ρ (.tmp 29)=.int .u8 ((x * 2:Nat):Int):=(hS.tmp 29).trans (hd.at 6 rfl)
      have r33:ρ (.tmp 33)=.int .u8 (y:Int):=(hS.tmp 33).trans (hd.at 10 rfl)
      refine (show yap _ _ _ _ (fun v w''=>Ext w' w''∧v=.int .u8 (z:Int)) from ?_)
      clear hC hd hS
      go_simp
      exact ⟨Ext.refl _,HXY.out.2⟩
    intro vals w' hC hV
    have e0:=hV 0 (by decide)
    have e1:=hV 1 (by decide)
    have e11:=hV 11 (by decide)
    simp only [vlist,ex,List.getD_cons_zero,List.getD_cons_succ] at e0 e1 e11
    have HC':=Lib.hid hC;clear hC hV
    simp only [List.drop_succ_cons,List.drop_zero]
    have hr2:=ycs HROW.out HC'.out
    have HR2:=Lib.hid hr2
    have HX9:=Lib.hid (HX8.out.trans HC'.out)
    have cg2:=HC'.out.cell cg
    have fg2:w'.frozen? ⟨g,m,none⟩=false:=World.ownsRow.frozenAt hr2 _
    clear hr2 cg cl
    go_wp2_with fail
    go_roundw
    case rel=>
     refine ⟨i+1,some ⟨g,0,none⟩,cap1,m+1,by omega,by go_num,rfl,by have:=HM.out;omega,HX9.out.setCell (by have:=(yar HR2.out (k:=g) rfl).1;exact this) _,?_⟩
     have h1:=(World.ownsRow.stored HR2.out m (.int .u8 (z:Int))).1
     rw [HCH.out.2.2.2.1,rawB_any HCH.out.2.1 (by have:=HCH.out.2.2.1;rw [zae];simp;omega) (by simp)]
     have e:((yao a++[UInt8.ofNat (val c)]).map bv).set m (.int .u8 (z:Int))=(yao a++[UInt8.ofNat (val (c++[b]))]).map bv:=by
      rw [zba,List.set_append_right _ _ (by rw [zbd,HCH.out.2.2.2.2];exact zbm _),zbd,HCH.out.2.2.2.2,Nat.sub_self,zba]
      have hzb:=HZB.out
      simp only [zay,List.map_nil,List.set_cons_zero,bv]
      rw [UInt8.toNat_ofNat',←HZ.out,Nat.mod_eq_of_lt (by omega)]
     rwa [e] at h1
    case measure=>simp [intOf];omega
  ·have hin:i=n:=by omega
   have htk:bl.take i=bl:=zaq (by rw [hin,HN.out];exact zbm _)
   have ho:=HO.out
   rw [htk] at ho
   have hki:((i:Int)<(n:Int))=False:=eq_false (by omega)
   have hin2:(i:Int)=(n:Int):=by omega
   have HIN:=Lib.hid hin
   by_cases h8:n % 8=0
   ·have hpk:rawB bl=yao bl:=yib (by rw [← HN.out];exact h8)
    have hpl:(yao bl).length=m0:=by rw [yco,←HN.out];have:=HM0.out;omega
    rw [hpk] at ho
    have HO2:=Lib.hid ho
    have HPL:=Lib.hid hpl
    have hr:(n:Int) % 8=0:=by omega
    clear h8 hpk hpl ho htk hin hin2 hlt HO
    go_wp2_with fail
    go_loopw [6] (fun v w'=>v=.int .i64 n∧wr=w') (fun _ _=>0)
    case atStart=>exact ⟨rfl,rfl⟩
    case round=>
     obtain ⟨rfl,rfl⟩:=hrel
     go_wp2_with fail
     go_ret
     rw [HPL.out]
     exact ⟨ao,cap,rfl,HX.out,HO2.out⟩
   ·obtain ⟨a,c,e1,e2,e3⟩:∃ a c,bl=a++c∧a.length % 8=0∧c.length=n % 8:=
     ⟨bl.take (n / 8 * 8),bl.drop (n / 8 * 8),(List.take_append_drop _ _).symm,by rw [zam,←HN.out];omega,by rw [zav,←HN.out];omega⟩
    have hc0:c≠[]:=fun e=>by rw [e] at e3;simp at e3;omega
    have hal:a.length=n / 8 * 8:=by have:=congrArg List.length e1;rw [zae,←HN.out] at this;omega
    obtain ⟨m,hm⟩:∃ m,m=(yao a).length:=⟨_,rfl⟩
    have hpm:m=n / 8:=by rw [hm,yco,hal];omega
    have hm0:m0=m+1:=by have:=HM0.out;omega
    rw [e1,yic e2 (by omega) hc0,hm0] at ho
    obtain ⟨g,cap1,he,hg1,hg2⟩:=World.ownsRow.form ho (by omega)
    simp only [Value.slice.injEq] at he
    obtain ⟨rfl,_,hcc⟩:=he
    rw [hcc] at ho ⊢
    rw [hm0]
    have HO2:=Lib.hid ho
    have HAC:Hid (bl=a++c∧a.length % 8=0∧c.length=n % 8∧c≠[]∧m=(yao a).length∧m≤1000000):=Lib.hid ⟨e1,e2,e3,hc0,hm,by omega⟩
    clear e1 e2 e3 hc0 hal hm hpm hm0 ho hcc hg1 hg2 htk hlt hin hin2 HO h8
    go_wp2_with fail
    go_loopw [6] (fun v w'=>∃ j:Nat,c.length+j≤8∧v=.int .i64 ((n:Int)+(j:Int))∧Ext w w'∧w'.ownsRow w.heap.size 5 1 (.slice (some ⟨g,0,none⟩) (m+1) cap1) (m+1) ((yao a++[UInt8.ofNat (val c * 2 ^ j)]).map bv)) (fun v _=>8+n - (intOf v).toNat)
    case atStart=>exact ⟨0,by have:=HAC.out.2.2.1;omega,by simp,HX.out,by simpa using HO2.out⟩
    case round=>
     obtain ⟨j,hj,rfl,hx,ho⟩:=hrel
     have HXJ:=Lib.hid hx
     have HOJ:=Lib.hid ho
     have HJ:=Lib.hid hj
     clear hx ho hj
     have hu:=HAC.out.2.2.1
     by_cases hq:c.length+j=8
     ·have hr:((n:Int)+(j:Int)) % 8=0:=by omega
      have hp:yao bl=yao a++[UInt8.ofNat (val c * 2 ^ j)]:=by
       rw [HAC.out.1,yfc HAC.out.2.1 (by omega) HAC.out.2.2.2.1,yfn,yd3,show 8 - c.length=j by omega]
      have hpl:(yao bl).length=m+1:=by rw [hp,zae,←HAC.out.2.2.2.2.1];rfl
      have HP:=Lib.hid hp
      have HPL:=Lib.hid hpl
      clear hu hq hp hpl
      go_wp2_with fail
      go_ret
      rw [HPL.out]
      refine ⟨some ⟨g,0,none⟩,cap1,rfl,HXJ.out,?_⟩
      rw [HP.out]
      exact HOJ.out
     ·have hr:((n:Int)+(j:Int)) % 8≠0:=by have:=HJ.out;have:=List.length_pos_iff.2 HAC.out.2.2.2.1;omega
      have hr2:(((n:Int)+(j:Int)) % 8 != 0)=true:=by rw [bne_iff_ne];exact hr
      obtain ⟨x,hx⟩:∃ x,x=val c * 2 ^ j:=⟨_,rfl⟩
      have hx2:x * 2<256:=by
       have h1:val c * 2 ^ (j+1)<2 ^ c.length * 2 ^ (j+1):=Nat.mul_lt_mul_of_pos_right (yly c) (Nat.two_pow_pos _)
       rw [← Nat.pow_add] at h1
       have h2:2 ^ (c.length+(j+1))≤2 ^ 8:=Nat.pow_le_pow_right (by decide) (by have:=HJ.out;omega)
       rw [Nat.pow_succ,←Nat.mul_assoc,←hx] at h1
       omega
      have hxs:val c * 2 ^ (j+1)=x * 2:=by rw [Nat.pow_succ,←Nat.mul_assoc,←hx]
      have cg:_=some (Value.int .u8 (x:Int)):=(World.ownsRow.cellAt HOJ.out m (by omega)).trans (by
       rw [zba,zac (by rw [zbd,←HAC.out.2.2.2.2.1];exact zbm _),zbd,←HAC.out.2.2.2.2.1,Nat.sub_self]
       simp only [zay,List.map_nil,zau,bv]
       rw [UInt8.toNat_ofNat',←hx,Nat.mod_eq_of_lt (by omega)])
      have fg:=World.ownsRow.frozenAt HOJ.out m
      have hml:(m:Int)<(m:Int)+1:=by omega
      have hmb:m≤1000000:=HAC.out.2.2.2.2.2
      have hw2:(x:Int) * 2 % 256=(x:Int) * 2:=by omega
      have hw3:IntKind.u8.wrap ((x:Int) * 2)=(x:Int) * 2:=by rw [IntKind.wrap_u8'];omega
      have HXS:=Lib.hid hxs
      have HX2:=Lib.hid hx2
      have hjb:j≤8:=by have:=HJ.out;omega
      have HQ:=Lib.hid hq
      clear hu hq hr hx hxs hx2
      go_wp2_with fail
      go_roundw
      case rel=>
       have hj:=HJ.out
       have hq:=HQ.out
       refine ⟨j+1,by omega,by refine congrArg (Value.int .i64) ?_;omega,HXJ.out.setCell (by have:=(yar HOJ.out (k:=g) rfl).1;exact this) _,?_⟩
       have h1:=(World.ownsRow.stored HOJ.out m (.int .u8 ((x:Int) * 2))).1
       have e:((yao a++[UInt8.ofNat (val c * 2 ^ j)]).map bv).set m (.int .u8 ((x:Int) * 2))=(yao a++[UInt8.ofNat (val c * 2 ^ (j+1))]).map bv:=by
        rw [zba,List.set_append_right _ _ (by rw [zbd,←HAC.out.2.2.2.2.1];exact zbm _),zbd,←HAC.out.2.2.2.2.1,Nat.sub_self,zba,HXS.out]
        have h2:=HX2.out
        simp only [zay,List.map_nil,List.set_cons_zero,bv]
        rw [UInt8.toNat_ofNat',Nat.mod_eq_of_lt (by omega)]
        push_cast;rfl
       rwa [e] at h1
      case measure=>
       have hj:=HJ.out
       have hp:=List.length_pos_iff.2 HAC.out.2.2.2.1
       simp only [intOf]
       omega
def RRd (w:World) (B xb:Nat) (bs:List Bool) (err:Int):Prop:=
 ∃ ao cap,w.heap[xb]? =some (.cells #[.slice ao bs.length cap,.int .i64 err] 194 (0,0))∧B≤xb∧Bs w (.slice ao bs.length cap) (bbs bs)∧∀ k,(Value.slice ao bs.length cap).ownBlock=some k→B≤k∧k<xb
section
variable {w w':World} {B xb:Nat} {bs:List Bool} {err:Int}
theorem RRd.lt (h:RRd w B xb bs err):xb<w.heap.size:=by
 obtain ⟨ao,cap,h1,_⟩:=h
 exact (zbp.1 h1).1
theorem RRd.mod {F:Nat→Prop} (h:RRd w B xb bs err) (hm:Mod F w w') (hF:∀ k,B≤k→k≤xb→¬ F k):RRd w' B xb bs err:=by
 obtain ⟨ao,cap,h1,h2,h3,h4⟩:=h
 exact ⟨ao,cap,(hm.block xb (zbp.1 h1).1 (hF _ h2 (zbm _))).trans h1,h2,h3.mod hm (fun k hk _=>hF k (h4 k hk).1 (Nat.le_of_lt (h4 k hk).2)),h4⟩
end
theorem RRd.drop {w:World} {B xb p cap cap' n:Nat} {bs:List Bool} {ao ao':Option Addr} (h1:w.heap[xb]? =some (.cells #[.slice ao p cap,.int .i64 0] 194 (0,0))) (hge:B≤xb) (h3:Bs w (.slice ao p cap) (bbs bs)) (h4:∀ k,(Value.slice ao p cap).ownBlock=some k→B≤k∧k<xb)
  (hp:p=bs.length) (hn:n≤p) (hc:p - n≤cap') (hcm:cap'≤9223372036854775807) (hnone:ao'=none→cap'=0) (hao:∀ a',ao'=some a'→n<p→∃ a,ao=some a∧a'=a.add n) (hob:∀ k,ao'.map (·.block)=some k→ao.map (·.block)=some k):
  RRd (w.setCell ⟨xb,0,none⟩ (.slice ao' (p - n) cap')) B xb (bs.drop n) 0∧Mod (fun k=>k=xb) w (w.setCell ⟨xb,0,none⟩ (.slice ao' (p - n) cap')):=by
 have hm:=Mod.setCell (F:=fun k=>k=xb) (p:=⟨xb,0,none⟩) (Mod.refl _ w) (fun _=>rfl) (.slice ao' (p - n) cap')
 have hl:(bs.drop n).length=p - n:=by rw [zav,hp]
 have h4':∀ k,(Value.slice ao' (p - n) cap').ownBlock=some k→B≤k∧k<xb:=fun k hk=>h4 k (by rw [ylr] at hk ⊢;exact hob k hk)
 refine ⟨⟨ao',cap',?_,hge,?_,?_⟩,hm⟩
 ·rw [hl];exact ybl (j:=0) (v:=.slice ao' (p - n) cap') h1
 ·rw [hl]
  have h5:Rs w 1 (.slice ao' (p - n) cap') (p - n) ((((bbs bs).map bv).drop (n * 1)).take ((p - n) * 1)):=by
   have h6:Rs w 1 (.slice ao p cap) p ((bbs bs).map bv):=by unfold Bs at h3;rwa [ycg,←hp] at h3
   exact Rs.cut h6 hn (zbm _) hc (by simpa [maxLen] using hcm) hnone fun a' ha hk=>by
    obtain ⟨a,e1,e2⟩:=hao a' ha hk
    exact ⟨a,e1,by rw [Nat.mul_one];exact e2⟩
  have e:(((bbs bs).map bv).drop (n * 1)).take ((p - n) * 1)=(bbs (bs.drop n)).map bv:=by
   rw [Nat.mul_one,Nat.mul_one,zaq (by rw [zav,zbd,ycg];omega)]
   unfold bbs
   rw [List.map_drop,List.map_drop]
  rw [e] at h5
  have h7:Bs w (.slice ao' (p - n) cap') (bbs (bs.drop n)):=by unfold Bs;rw [ycg,hl];exact h5
  exact h7.mod hm fun k hk _ e=>by have:=(h4' k hk).2;omega
 ·rw [hl];exact h4'
def rgetOk (bs:List Bool) (err n:Int):Prop:=err=0∧0≤n∧n≤64∧n≤(bs.length:Int)
instance (bs:List Bool) (err n:Int):Decidable (rgetOk bs err n):=by unfold rgetOk;infer_instance
section
variable {P:Program}
theorem ygf {w:World} {t ty e:TypeId} {size bytes base:Nat} (hE:ElemT P t e size bytes) {v:Value} {n:Nat} {xs:List Value} (hown:w.ownsRow base e size v n xs)
  {u:Value} {m:Nat} {news:List Value} (hR:Rs w size u m news) (h1:∀ u∈news,u.oneCell'=true)
  (h63:n+m≤9223372036854775807) (hbytes:(n+m) * bytes≤140737488355328) (hbase:base≤w.heap.size):
  ∃ v' w',(Builtin.append_ #[t,t] ty #[v,u]).run P w=.ok v' w'∧w'.ownsRow base e size v' (n+m) (xs++news)∧w.grownBy w' v.ownBlock∧(v'.ownBlock=v.ownBlock∨v'.ownBlock=some w.heap.size):=by
 obtain ⟨i,z,h2,h3,h4,h5,h6,h7,h8⟩:=hE
 obtain ⟨ao,cap,rfl,r1,r2,r3,r4,r5⟩:=hR.open
 cases ao with
 |none=>
  have hc:=r3 rfl
  subst hc
  have hm:m=0:=by omega
  subst hm
  have hn:news=[]:=zaw (by simpa using r4)
  subst hn
  exact ⟨v,w,run_append_owned_none (P:=P) (w:=w) base t ty e i size h2 h3 v n xs hown,by simpa using hown,⟨rfl,rfl,rfl,zbm _,fun _ _ _=>rfl⟩,.inl rfl⟩
 |some ad=>
  obtain ⟨v',w',hr,q2,q3,_,q5⟩:=run_append_own_at (P:=P) w base t ty e i z size bytes h2 h3 h4 h5 h6 h7 h8 v n xs hown ad m cap news r4 (r5 ad rfl) h1 (by simpa [maxLen] using h63) hbytes hbase
  exact ⟨v',w',hr,q2,q3,q5⟩
end
theorem WrF.lt {w:World} {B wb:Nat} {l:List Bool} {err:Int} (h:WrIs w B wb l err) {q:Nat} (hq:WrF w wb q):q<w.heap.size:=by
 have hlt:=h.lt
 obtain ⟨ao,cap,h1,h2,h3⟩:=h
 rcases hq with rfl|⟨v,q1,q2⟩
 ·exact hlt
 ·rw [yac h1] at q1
  simp only [List.size_toArray,List.getElem?_toArray,List.getElem?_cons_succ,zau,Option.some.injEq] at q1
  subst q1
  exact (yar h3 q2).2
theorem getAt_le (l:List UInt8) (at':Nat) (err n:Int) (ha:at'≤8 * l.length):yp1 l at' err n≤8 * l.length:=by
 unfold yp1
 split<;>omega
end Go.Proofs.Ytiiekgcjilelpaa
