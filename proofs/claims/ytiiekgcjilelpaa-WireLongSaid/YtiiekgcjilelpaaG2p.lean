/- G2. -/
import Derived.Test.YtiiekgcjilelpaaG1p
import Derived.Test.YtiiekgcjilelpaaOpenp
import Derived.Test.YtiiekgcjilelpaaG0p
set_option maxRecDepth 100000
set_option linter.unusedSimpArgs false
set_option linter.unusedVariables false
namespace Go.Proofs.Ytiiekgcjilelpaa
open Go.RowKit
set_option maxHeartbeats 1000000 in
theorem rget_err (rb B:Nat) (l:List UInt8) (at':Nat) (err n:Int) (w:World) (h:RdIs w B rb l at' err) (h0:err≠0):
  Calls Try.prog 127 #[.pointer (some ⟨rb,0,none⟩),.int .i64 n] w fun e w'=>e=.returned (.int .u64 0)∧w=w':=by
 have H:=Lib.hid h;clear h
 have hb:(err != 0)=true:=by simpa using h0
 clear h0
 go_enter Try.func127,Try.ntmps127
 go_wp2_with fail
 refine (rerr_c rb B l at' err w H.out).mono ?_
 rintro e w1 ⟨rfl,rfl⟩
 go_wp2
 go_ret
 exact ⟨rfl,rfl⟩
set_option maxHeartbeats 1000000 in
theorem rget_arg (rb B:Nat) (l:List UInt8) (at':Nat) (n:Int) (w:World) (h:RdIs w B rb l at' 0) (hn:n<0∨64<n):
  Calls Try.prog 127 #[.pointer (some ⟨rb,0,none⟩),.int .i64 n] w fun e w'=>e=.returned (.int .u64 0)∧RdIs w' B rb l at' 2∧Mod (fun k=>k=rb) w w':=by
 have c3:=h.c3
 have f3:=h.fz 3
 have H:=Lib.hid h;clear h
 rcases hn with hn|hn
 all_goals
  go_enter Try.func127,Try.ntmps127
  go_wp2_with fail
  refine (rerr_c rb B l at' 0 w H.out).mono ?_
  rintro e w1 ⟨rfl,rfl⟩
  go_wp2
  go_ret
  exact ⟨rfl,H.out.setErr 2,Mod.setCell (F:=fun k=>k=rb) (p:=⟨rb,3,none⟩) (Mod.refl _ w) (fun _=>rfl) _⟩
set_option maxHeartbeats 1000000 in
theorem rget_short (rb B:Nat) (l:List UInt8) (at':Nat) (n:Int) (w:World) (h:RdIs w B rb l at' 0) (hn:0≤n) (hn':n≤64) (hf:8 * (l.length:Int)<(at':Int)+n) (hl:l.length≤140737488355328) (ha:at'≤8 * l.length):
  Calls Try.prog 127 #[.pointer (some ⟨rb,0,none⟩),.int .i64 n] w fun e w'=>e=.returned (.int .u64 0)∧RdIs w' B rb l at' 3∧Mod (fun k=>k=rb) w w':=by
 have H:=Lib.hid h;clear h
 have HL:=Lib.hid hl
 have HA:=Lib.hid ha
 have hleft:leftI l at' 0<n:=by rw [leftI_zero];omega
 generalize hlf:leftI l at' 0=lf at hleft
 have HLF:=Lib.hid hlf
 clear hlf hf hl ha
 go_enter Try.func127,Try.ntmps127
 go_wp2_with fail
 refine (rerr_c rb B l at' 0 w H.out).mono ?_
 rintro e w1 ⟨rfl,rfl⟩
 go_wp2_with fail
 refine (rleft_c rb B l at' 0 w H.out HL.out HA.out).mono ?_
 rintro e w1 ⟨rfl,nd,rfl⟩
 rw [HLF.out]
 have H':=Lib.hid (H.out.ext ((Ext.refl w).drewN nd))
 have c3:=H'.out.c3
 have f3:=H'.out.fz 3
 go_wp2
 go_ret
 exact ⟨rfl,H'.out.setErr 3,Mod.setCell (F:=fun k=>k=rb) (p:=⟨rb,3,none⟩) ((Ext.refl w).drewN nd).mod (fun _=>rfl) _⟩
def getV (l:List UInt8) (at':Nat) (err n:Int):Nat:=if err=0∧0≤n∧n≤64∧(at':Int)+n≤8 * (l.length:Int) then val (bitsFrom l at' n.toNat) else 0
def getAt (l:List UInt8) (at':Nat) (err n:Int):Nat:=if err=0∧0≤n∧n≤64∧(at':Int)+n≤8 * (l.length:Int) then at'+n.toNat else at'
def getE (l:List UInt8) (at':Nat) (err n:Int):Int:=if err≠0 then err else if n<0∨64<n then 2 else if 8 * (l.length:Int)<(at':Int)+n then 3 else 0
theorem rget_c (rb B:Nat) (l:List UInt8) (at':Nat) (err n:Int) (w:World) (h:RdIs w B rb l at' err) (hl:l.length≤140737488355328) (ha:at'≤8 * l.length):
  Calls Try.prog 127 #[.pointer (some ⟨rb,0,none⟩),.int .i64 n] w fun e w'=>e=.returned (.int .u64 (getV l at' err n:Int))∧RdIs w' B rb l (getAt l at' err n) (getE l at' err n)∧Mod (fun k=>k=rb) w w':=by
 by_cases h0:err=0
 ·subst h0
  by_cases h1:n<0∨64<n
  ·have e:¬ ((0:Int)=0∧0≤n∧n≤64∧(at':Int)+n≤8 * (l.length:Int)):=by omega
   rw [getV,getAt,getE,if_neg e,if_neg e,if_neg (by simp),if_pos h1]
   exact rget_arg rb B l at' n w h h1
  ·by_cases h2:8 * (l.length:Int)<(at':Int)+n
   ·have e:¬ ((0:Int)=0∧0≤n∧n≤64∧(at':Int)+n≤8 * (l.length:Int)):=by omega
    rw [getV,getAt,getE,if_neg e,if_neg e,if_neg (by simp),if_neg h1,if_pos h2]
    exact rget_short rb B l at' n w h (by omega) (by omega) h2 hl ha
   ·have e:((0:Int)=0∧0≤n∧n≤64∧(at':Int)+n≤8 * (l.length:Int)):=by omega
    rw [getV,getAt,getE,if_pos e,if_pos e,if_neg (by simp),if_neg h1,if_neg h2]
    obtain ⟨m,rfl⟩:=Int.eq_ofNat_of_zero_le (show 0≤n by omega)
    rw [Int.toNat_natCast]
    exact rget_ok rb B l at' m w h (by omega) (by omega) hl
 ·have e:¬ (err=0∧0≤n∧n≤64∧(at':Int)+n≤8 * (l.length:Int)):=by omega
  rw [getV,getAt,getE,if_neg e,if_neg e,if_pos h0]
  refine (rget_err rb B l at' err n w h h0).mono ?_
  rintro e w' ⟨h1,rfl⟩
  exact ⟨h1,h,Mod.refl _ w⟩
theorem WrIs.fge {w:World} {B wb:Nat} {l:List Bool} {err:Int} (h:WrIs w B wb l err):∀ k,WrF w wb k→B≤k:=by
 obtain ⟨ao,cap,h1,h2,h3⟩:=h
 rintro k (rfl|⟨v,q1,q2⟩)
 ·exact h2
 ·rw [cell_of_blk h1] at q1
  simp only [List.size_toArray,List.getElem?_toArray,List.getElem?_cons_succ,List.getElem?_cons_zero,Option.some.injEq] at q1
  subst q1
  exact (owns_block h3 q2).1
theorem p_and3 {b q:Nat} (hb:b<256) (h8:q≤8):bits .and .u8 (b:Int) ((2 ^ q - 1:Nat):Int)=((b:Int) % 2 ^ q):=by
 have h1:=u8_and_nat b (2 ^ q - 1) hb (by have:=p_pow8 h8;have:=Nat.two_pow_pos q;omega)
 rw [Nat.and_two_pow_sub_one_eq_mod] at h1
 rw [h1]
 simp
def endB (l:List UInt8) (at':Nat):Bool:=decide (8 * l.length<at'+8∧val (bitsFrom l at' (8 * l.length - at'))=0)
def endI (l:List UInt8) (at':Nat) (err:Int):Int:=if err≠0 then err else if endB l at'=true then 0 else 6
set_option maxHeartbeats 1000000 in
theorem rend_err (rb B:Nat) (l:List UInt8) (at':Nat) (err:Int) (w:World) (h:RdIs w B rb l at' err) (hl:l.length≤140737488355328) (ha:at'≤8 * l.length) (h0:err≠0):
  Calls Try.prog 130 #[.pointer (some ⟨rb,0,none⟩)] w fun e w'=>e=.returned (.int .i64 err)∧Ext w w':=by
 have H:=Lib.hid h;clear h
 have hb:(err != 0)=true:=by simpa using h0
 clear h0 hl ha
 go_enter Try.func130,Try.ntmps130
 go_wp2_with fail
 refine (rerr_c rb B l at' err w H.out).mono ?_
 rintro e w1 ⟨rfl,rfl⟩
 go_wp2
 go_ret
 exact ⟨rfl,Ext.refl w⟩
set_option maxHeartbeats 1000000 in
theorem rend_many (rb B:Nat) (l:List UInt8) (at':Nat) (w:World) (h:RdIs w B rb l at' 0) (hl:l.length≤140737488355328) (ha:at'≤8 * l.length) (h8:at'+8≤8 * l.length):
  Calls Try.prog 130 #[.pointer (some ⟨rb,0,none⟩)] w fun e w'=>e=.returned (.int .i64 6)∧Ext w w':=by
 have H:=Lib.hid h;clear h
 obtain ⟨q,hq⟩:∃ q,q=8 * l.length - at':=⟨_,rfl⟩
 have HLF:Hid (leftI l at' 0=(q:Int)):=Lib.hid (by rw [leftI_zero];omega)
 have HL:=Lib.hid hl
 have HA:=Lib.hid ha
 have hq8:8≤q:=by omega
 clear hl ha hq h8
 go_enter Try.func130,Try.ntmps130
 go_wp2_with fail
 refine (rerr_c rb B l at' 0 w H.out).mono ?_
 rintro e w1 ⟨rfl,rfl⟩
 go_wp2_with fail
 refine (rleft_c rb B l at' 0 w H.out HL.out HA.out).mono ?_
 rintro e w1 ⟨rfl,nd,rfl⟩
 rw [HLF.out]
 go_wp2
 go_ret
 exact ⟨rfl,(Ext.refl w).drewN nd⟩
set_option maxHeartbeats 1000000 in
theorem rend_none (rb B:Nat) (l:List UInt8) (at':Nat) (w:World) (h:RdIs w B rb l at' 0) (hl:l.length≤140737488355328) (ha:at'≤8 * l.length) (h8:at'=8 * l.length):
  Calls Try.prog 130 #[.pointer (some ⟨rb,0,none⟩)] w fun e w'=>e=.returned (.int .i64 0)∧Ext w w':=by
 have H:=Lib.hid h;clear h
 obtain ⟨q,hq⟩:∃ q,q=8 * l.length - at':=⟨_,rfl⟩
 have HLF:Hid (leftI l at' 0=(q:Int)):=Lib.hid (by rw [leftI_zero];omega)
 have HL:=Lib.hid hl
 have HA:=Lib.hid ha
 have HQ0:Hid (q=0):=Lib.hid (by omega)
 have hlt:((0:Int)<(q:Int))=False:=eq_false (by omega)
 have hq8':((8:Int)≤(q:Int))=False:=eq_false (by omega)
 clear hl ha hq h8
 go_enter Try.func130,Try.ntmps130
 go_wp2_with fail
 refine (rerr_c rb B l at' 0 w H.out).mono ?_
 rintro e w1 ⟨rfl,rfl⟩
 go_wp2_with fail
 refine (rleft_c rb B l at' 0 w H.out HL.out HA.out).mono ?_
 rintro e w1 ⟨rfl,nd,rfl⟩
 rw [HLF.out]
 go_wp2_with fail
 refine wp_region_rx 21 _
  [ex (.int .i64 (q:Int)),
   ex (.bool false),
   ex (.bool false),
   ex undef,
   ex undef,
   ex undef,
   ex undef,
   ex undef,
   ex undef,
   ex undef,
   ex undef,
   ex undef,
   ex undef,
   ex undef,
   ex undef,
   ex undef,
   ex undef,
   ex undef,
   ex undef,
   ex undef,
   ex (.bool false)]
  (by kernel_rfl) (by kernel_rfl) (by kernel_rfl) rfl ⟨ex_st,ex_st,ex_st,ex_st,ex_st,ex_st,ex_st,ex_st,ex_st,ex_st,ex_st,ex_st,ex_st,ex_st,ex_st,ex_st,ex_st,ex_st,ex_st,ex_st,ex_st,trivial⟩ ?_ ?_
 ·simp only [List.take_succ_cons,List.take_zero]
  go_tidy
  refine RhOps.mk (RhOp.moveA (by decide) (.free rfl) 4 (fun _ w _=>Ext.refl w) rfl rfl (.int .i64 (q:Int)) rfl (fun _ _ _=>rfl)) ?_
  refine RhOps.mk (RhOp.at (by decide) (.free rfl) ?_) ?_
  rotate_left
  refine RhOps.mk (RhOp.move (by decide) (.free rfl) 15 1 (fun _ w _=>Ext.refl w) rfl rfl rfl (fun _ _ h=>h)) ?_
  refine RhOps.mk (RhOp.off (by decide) (.by 2 true rfl (fun _ _ h=>h)) (fun _ _ _=>rfl)) ?_
  refine RhOps.mk (RhOp.off (by decide) (.by 2 true rfl (fun _ _ h=>h)) (fun _ _ _=>rfl)) ?_
  refine RhOps.mk (RhOp.off (by decide) (.by 2 true rfl (fun _ _ h=>h)) (fun _ _ _=>rfl)) ?_
  refine RhOps.mk (RhOp.off (by decide) (.by 2 true rfl (fun _ _ h=>h)) (fun _ _ _=>rfl)) ?_
  refine RhOps.mk (RhOp.off (by decide) (.by 2 true rfl (fun _ _ h=>h)) (fun _ _ _=>rfl)) ?_
  refine RhOps.mk (RhOp.off (by decide) (.by 2 true rfl (fun _ _ h=>h)) (fun _ _ _=>rfl)) ?_
  refine RhOps.mk (RhOp.off (by decide) (.by 2 true rfl (fun _ _ h=>h)) (fun _ _ _=>rfl)) ?_
  refine RhOps.mk (RhOp.off (by decide) (.by 2 true rfl (fun _ _ h=>h)) (fun _ _ _=>rfl)) ?_
  refine RhOps.mk (RhOp.off (by decide) (.by 2 true rfl (fun _ _ h=>h)) (fun _ _ _=>rfl)) ?_
  refine RhOps.mk (RhOp.off (by decide) (.by 2 true rfl (fun _ _ h=>h)) (fun _ _ _=>rfl)) ?_
  refine RhOps.mk (RhOp.off (by decide) (.by 2 true rfl (fun _ _ h=>h)) (fun _ _ _=>rfl)) ?_
  refine RhOps.mk (RhOp.off (by decide) (.by 2 true rfl (fun _ _ h=>h)) (fun _ _ _=>rfl)) ?_
  refine RhOps.mk (RhOp.off (by decide) (.by 2 true rfl (fun _ _ h=>h)) (fun _ _ _=>rfl)) ?_
  refine RhOps.mk (RhOp.off (by decide) (.by 2 true rfl (fun _ _ h=>h)) (fun _ _ _=>rfl)) ?_
  refine RhOps.mk (RhOp.off (by decide) (.by 2 true rfl (fun _ _ h=>h)) (fun _ _ _=>rfl)) ?_
  refine RhOps.mk (RhOp.off (by decide) (.by 2 true rfl (fun _ _ h=>h)) (fun _ _ _=>rfl)) ?_
  refine RhOps.mk (RhOp.off (by decide) (.by 2 true rfl (fun _ _ h=>h)) (fun _ _ _=>rfl)) ?_
  refine RhOps.mk (RhOp.at (by decide) (.free rfl) ?_) ?_
  rotate_left
  exact RhOps.done
  ·intro bb vals ρ w' hC hd hS
   have r14:ρ (.tmp 14)=.int .i64 (q:Int):=(hS.tmp 14).trans (hd.at 0 rfl)
   have rc:=hS.const
   refine (show givesR _ _ _ _ (fun v w''=>Ext w' w''∧v=.bool false) from ?_)
   clear hC hd hS
   go_simp
   exact ⟨Ext.refl _,HQ0.out⟩
  ·intro bb vals ρ w' hC hd hS
   have r16:ρ (.tmp 16)=.bool false:=(hS.tmp 16).trans (hd.at 2 rfl)
   have r33:ρ (.tmp 33)=undef:=(hS.tmp 33).trans (hd.at 19 rfl)
   have rc:=hS.const
   refine (show givesR _ _ _ _ (fun v w''=>Ext w' w''∧v=.bool false) from ?_)
   clear hC hd hS
   go_simp
   exact Ext.refl _
 intro vals w' hC hV
 have e20:=hV 20 (by decide)
 simp only [vlist,ex,List.getD_cons_zero,List.getD_cons_succ] at e20
 have HC':=Lib.hid hC;clear hC hV
 simp only [List.drop_succ_cons,List.drop_zero]
 go_simp -- the frame
 go_wp2
 go_ret
 exact ⟨rfl,((Ext.refl w).drewN nd).trans HC'.out⟩
set_option maxHeartbeats 1000000 in
theorem rend_some (rb B:Nat) (l:List UInt8) (at':Nat) (w:World) (h:RdIs w B rb l at' 0) (hl:l.length≤140737488355328) (ha:at'≤8 * l.length) (h8:8 * l.length<at'+8) (h9:at'<8 * l.length):
  Calls Try.prog 130 #[.pointer (some ⟨rb,0,none⟩)] w fun e w'=>e=.returned (.int .i64 (if val (bitsFrom l at' (8 * l.length - at'))=0 then 0 else 6))∧Ext w w':=by
 have H:=Lib.hid h;clear h
 obtain ⟨q,hq⟩:∃ q,q=8 * l.length - at':=⟨_,rfl⟩
 have HLF:Hid (leftI l at' 0=(q:Int)):=Lib.hid (by rw [leftI_zero];omega)
 have HL:=Lib.hid hl
 have HA:=Lib.hid ha
 have hql:0<l.length:=by omega
 obtain ⟨ao,cap,hb1,hb2,hb3,hb4⟩:=H.out
 obtain ⟨g,cap',he,hg1,hg2⟩:=World.ownsRow.form hb3 hql
 simp only [Value.slice.injEq] at he
 obtain ⟨rfl,_,rfl⟩:=he
 obtain ⟨ln,hln⟩:∃ ln,ln=l.length:=⟨_,rfl⟩
 obtain ⟨j,hj⟩:∃ j,j=at' / 8:=⟨_,rfl⟩
 obtain ⟨b,hb⟩:∃ b,b=(l.getD j 0).toNat:=⟨_,rfl⟩
 obtain ⟨z,hz⟩:∃ z:Bool,z=((b:Int) % 2 ^ q != 0):=⟨_,rfl⟩
 have hjl:j<l.length:=by omega
 have hbb:b<256:=by rw [hb];exact UInt8.toNat_lt _
 have e:(if val (bitsFrom l at' (8 * l.length - at'))=0 then (0:Int) else 6)=if z=true then 6 else 0:=by
  rw [← hq,bitsFrom_piece (by omega) (by omega),←hj,←hb,show 8 - at' % 8 - q=0 by omega,Nat.pow_zero,Nat.div_one]
  have hz':z=true↔b % 2 ^ q≠0:=by
   rw [hz,bne_iff_ne]
   have:((b:Int) % 2 ^ q)=((b % 2 ^ q:Nat):Int):=by push_cast;rfl
   rw [this];omega
  by_cases hc:b % 2 ^ q=0
  ·rw [if_pos hc,if_neg (by rw [hz'];simp [hc])]
  ·rw [if_neg hc,if_pos (hz'.2 hc)]
 rw [e]
 have HJ:Hid (IntKind.i64.wrap ((ln:Int) - 1)=(j:Int)∧(j:Int)<(ln:Int)):=Lib.hid ⟨by rw [IntKind.wrap_i64];omega,by omega⟩
 have HQ8:Hid (0<q∧q≤8):=Lib.hid (by omega)
 have hq8'':q≤8:=HQ8.out.2
 have HB8:=Lib.hid hbb
 have HZ:Hid (((b:Int) % 2 ^ q != 0)=z):=Lib.hid hz.symm
 have hlt:((0:Int)<(q:Int))=True:=eq_true (by omega)
 have hq8':((8:Int)≤(q:Int))=False:=eq_false (by omega)
 have c1:w.cell? ⟨rb,1,none⟩=some (.slice (some ⟨g,0,none⟩) ln cap):=by rw [cell_of_blk hb1,hln];rfl
 have cg:w.cell? ⟨g,j,none⟩=some (.int .u8 (b:Int)):=by
  rw [World.ownsRow.cellAt hb3 _ (by omega),hb]
  simp [bv,List.getD,List.getElem?_eq_getElem hjl]
 clear hl ha hq e hb1 hb2 hb3 hb4 hg1 hg2 hln hj hb hz hjl hbb hql h8 h9
 go_enter Try.func130,Try.ntmps130
 go_wp2_with fail
 refine (rerr_c rb B l at' 0 w H.out).mono ?_
 rintro e w1 ⟨rfl,rfl⟩
 go_wp2_with fail
 refine (rleft_c rb B l at' 0 w H.out HL.out HA.out).mono ?_
 rintro e w1 ⟨rfl,nd,rfl⟩
 rw [HLF.out]
 go_wp2_with fail
 refine wp_region_rx 21 _
  [ex (.int .i64 (q:Int)),
   ex (.bool true),
   ex (.bool true),
   ex (.pointer (some ⟨rb,0,none⟩)),
   ex (.pointer (some ⟨rb,0,none⟩)),
   ex (.pointer (some ⟨rb,1,none⟩)),
   ex (.slice (some ⟨g,0,none⟩) ln cap),
   ex (.pointer (some ⟨rb,0,none⟩)),
   ex (.pointer (some ⟨rb,0,none⟩)),
   ex (.pointer (some ⟨rb,1,none⟩)),
   ex (.slice (some ⟨g,0,none⟩) ln cap),
   ex (.int .i64 (ln:Int)),
   ex (.int .i64 (j:Int)),
   ex (.pointer (some ⟨g,j,none⟩)),
   ex (.int .u8 (b:Int)),
   ex (.int .i64 (q:Int)),
   ex (.int .u8 ((2 ^ q % 256:Nat):Int)),
   ex (.int .u8 ((2 ^ q - 1:Nat):Int)),
   ex (.int .u8 ((b % 2 ^ q:Nat):Int)),
   ex (.bool z),
   ex (.bool z)]
  (by kernel_rfl) (by kernel_rfl) (by kernel_rfl) rfl ⟨ex_st,ex_st,ex_st,ex_st,ex_st,ex_st,ex_st,ex_st,ex_st,ex_st,ex_st,ex_st,ex_st,ex_st,ex_st,ex_st,ex_st,ex_st,ex_st,ex_st,ex_st,trivial⟩ ?_ ?_
 ·simp only [List.take_succ_cons,List.take_zero]
  go_tidy
  refine RhOps.mk (RhOp.moveA (by decide) (.free rfl) 4 (fun _ w _=>Ext.refl w) rfl rfl (.int .i64 (q:Int)) rfl (fun _ _ _=>rfl)) ?_
  refine RhOps.mk (RhOp.at (by decide) (.free rfl) ?_) ?_
  rotate_left
  refine RhOps.mk (RhOp.move (by decide) (.free rfl) 15 1 (fun _ w _=>Ext.refl w) rfl rfl rfl (fun _ _ h=>h)) ?_
  refine RhOps.mk (RhOp.moveA (by decide) (.on 2 true rfl (fun _ _ h=>h)) 0 (fun _ w _=>Ext.refl w) rfl rfl (.pointer (some ⟨rb,0,none⟩)) rfl (fun _ _ _=>rfl)) ?_
  refine RhOps.mk (RhOp.at (by decide) (.on 2 true rfl (fun _ _ h=>h)) ?_) ?_
  rotate_left
  refine RhOps.mk (RhOp.at (by decide) (.on 2 true rfl (fun _ _ h=>h)) ?_) ?_
  rotate_left
  refine RhOps.mk (RhOp.at (by decide) (.on 2 true rfl (fun _ _ h=>h)) ?_) ?_
  rotate_left
  refine RhOps.mk (RhOp.moveA (by decide) (.on 2 true rfl (fun _ _ h=>h)) 0 (fun _ w _=>Ext.refl w) rfl rfl (.pointer (some ⟨rb,0,none⟩)) rfl (fun _ _ _=>rfl)) ?_
  refine RhOps.mk (RhOp.at (by decide) (.on 2 true rfl (fun _ _ h=>h)) ?_) ?_
  rotate_left
  refine RhOps.mk (RhOp.at (by decide) (.on 2 true rfl (fun _ _ h=>h)) ?_) ?_
  rotate_left
  refine RhOps.mk (RhOp.at (by decide) (.on 2 true rfl (fun _ _ h=>h)) ?_) ?_
  rotate_left
  refine RhOps.mk (RhOp.at (by decide) (.on 2 true rfl (fun _ _ h=>h)) ?_) ?_
  rotate_left
  refine RhOps.mk (RhOp.at (by decide) (.on 2 true rfl (fun _ _ h=>h)) ?_) ?_
  rotate_left
  refine RhOps.mk (RhOp.at (by decide) (.on 2 true rfl (fun _ _ h=>h)) ?_) ?_
  rotate_left
  refine RhOps.mk (RhOp.at (by decide) (.on 2 true rfl (fun _ _ h=>h)) ?_) ?_
  rotate_left
  refine RhOps.mk (RhOp.moveA (by decide) (.on 2 true rfl (fun _ _ h=>h)) 4 (fun _ w _=>Ext.refl w) rfl rfl (.int .i64 (q:Int)) rfl (fun _ _ _=>rfl)) ?_
  refine RhOps.mk (RhOp.at (by decide) (.on 2 true rfl (fun _ _ h=>h)) ?_) ?_
  rotate_left
  refine RhOps.mk (RhOp.at (by decide) (.on 2 true rfl (fun _ _ h=>h)) ?_) ?_
  rotate_left
  refine RhOps.mk (RhOp.at (by decide) (.on 2 true rfl (fun _ _ h=>h)) ?_) ?_
  rotate_left
  refine RhOps.mk (RhOp.at (by decide) (.on 2 true rfl (fun _ _ h=>h)) ?_) ?_
  rotate_left
  refine RhOps.mk (RhOp.at (by decide) (.free rfl) ?_) ?_
  rotate_left
  exact RhOps.done
  ·intro bb vals ρ w' hC hd hS
   have r14:ρ (.tmp 14)=.int .i64 (q:Int):=(hS.tmp 14).trans (hd.at 0 rfl)
   have rc:=hS.const
   refine (show givesR _ _ _ _ (fun v w''=>Ext w' w''∧v=.bool true) from ?_)
   clear hC hd hS
   go_simp
   exact ⟨Ext.refl _,HQ8.out.1⟩
  ·intro bb vals ρ w' hC hd hS
   have r17:ρ (.tmp 17)=.pointer (some ⟨rb,0,none⟩):=(hS.tmp 17).trans (hd.at 3 rfl)
   refine (show givesR _ _ _ _ (fun v w''=>Ext w' w''∧v=.pointer (some ⟨rb,0,none⟩)) from ?_)
   clear hC hd hS
   go_simp
   exact Ext.refl _
  ·intro bb vals ρ w' hC hd hS
   have r18:ρ (.tmp 18)=.pointer (some ⟨rb,0,none⟩):=(hS.tmp 18).trans (hd.at 4 rfl)
   refine (show givesR _ _ _ _ (fun v w''=>Ext w' w''∧v=.pointer (some ⟨rb,1,none⟩)) from ?_)
   clear hC hd hS
   go_simp
   exact Ext.refl _
  ·intro bb vals ρ w' hC hd hS
   have r19:ρ (.tmp 19)=.pointer (some ⟨rb,1,none⟩):=(hS.tmp 19).trans (hd.at 5 rfl)
   have qc:=hC.cell c1
   refine (show givesR _ _ _ _ (fun v w''=>Ext w' w''∧v=.slice (some ⟨g,0,none⟩) ln cap) from ?_)
   clear hC hd hS
   go_simp
   exact Ext.refl _
  ·intro bb vals ρ w' hC hd hS
   have r21:ρ (.tmp 21)=.pointer (some ⟨rb,0,none⟩):=(hS.tmp 21).trans (hd.at 7 rfl)
   refine (show givesR _ _ _ _ (fun v w''=>Ext w' w''∧v=.pointer (some ⟨rb,0,none⟩)) from ?_)
   clear hC hd hS
   go_simp
   exact Ext.refl _
  ·intro bb vals ρ w' hC hd hS
   have r22:ρ (.tmp 22)=.pointer (some ⟨rb,0,none⟩):=(hS.tmp 22).trans (hd.at 8 rfl)
   refine (show givesR _ _ _ _ (fun v w''=>Ext w' w''∧v=.pointer (some ⟨rb,1,none⟩)) from ?_)
   clear hC hd hS
   go_simp
   exact Ext.refl _
  ·intro bb vals ρ w' hC hd hS
   have r23:ρ (.tmp 23)=.pointer (some ⟨rb,1,none⟩):=(hS.tmp 23).trans (hd.at 9 rfl)
   have qc:=hC.cell c1
   refine (show givesR _ _ _ _ (fun v w''=>Ext w' w''∧v=.slice (some ⟨g,0,none⟩) ln cap) from ?_)
   clear hC hd hS
   go_simp
   exact Ext.refl _
  ·intro bb vals ρ w' hC hd hS
   have r24:ρ (.tmp 24)=.slice (some ⟨g,0,none⟩) ln cap:=(hS.tmp 24).trans (hd.at 10 rfl)
   refine (show givesR _ _ _ _ (fun v w''=>Ext w' w''∧v=.int .i64 (ln:Int)) from ?_)
   clear hC hd hS
   go_simp
   exact Ext.refl _
  ·intro bb vals ρ w' hC hd hS
   have r25:ρ (.tmp 25)=.int .i64 (ln:Int):=(hS.tmp 25).trans (hd.at 11 rfl)
   have rc:=hS.const
   refine (show givesR _ _ _ _ (fun v w''=>Ext w' w''∧v=.int .i64 (j:Int)) from ?_)
   clear hC hd hS
   go_simp
   exact ⟨Ext.refl _,HJ.out.1⟩
  ·intro bb vals ρ w' hC hd hS
   have r20:ρ (.tmp 20)=.slice (some ⟨g,0,none⟩) ln cap:=(hS.tmp 20).trans (hd.at 6 rfl)
   have r26:ρ (.tmp 26)=.int .i64 (j:Int):=(hS.tmp 26).trans (hd.at 12 rfl)
   refine (show givesR _ _ _ _ (fun v w''=>Ext w' w''∧v=.pointer (some ⟨g,j,none⟩)) from ?_)
   have hjl:=HJ.out.2
   clear hC hd hS
   go_simp
   exact Ext.refl _
  ·intro bb vals ρ w' hC hd hS
   have r27:ρ (.tmp 27)=.pointer (some ⟨g,j,none⟩):=(hS.tmp 27).trans (hd.at 13 rfl)
   have qc:=hC.cell cg
   refine (show givesR _ _ _ _ (fun v w''=>Ext w' w''∧v=.int .u8 (b:Int)) from ?_)
   clear hC hd hS
   go_simp
   exact Ext.refl _
  ·intro bb vals ρ w' hC hd hS
   have r29:ρ (.tmp 29)=.int .i64 (q:Int):=(hS.tmp 29).trans (hd.at 15 rfl)
   have rc:=hS.const
   refine (show givesR _ _ _ _ (fun v w''=>Ext w' w''∧v=.int .u8 ((2 ^ q % 256:Nat):Int)) from ?_)
   clear hC hd hS
   go_simp
   exact ⟨Ext.refl _,p_wrap8' q⟩
  ·intro bb vals ρ w' hC hd hS
   have r30:ρ (.tmp 30)=.int .u8 ((2 ^ q % 256:Nat):Int):=(hS.tmp 30).trans (hd.at 16 rfl)
   have rc:=hS.const
   refine (show givesR _ _ _ _ (fun v w''=>Ext w' w''∧v=.int .u8 ((2 ^ q - 1:Nat):Int)) from ?_)
   clear hC hd hS
   go_simp
   exact ⟨Ext.refl _,p_mask HQ8.out.1 HQ8.out.2⟩
  ·intro bb vals ρ w' hC hd hS
   have r28:ρ (.tmp 28)=.int .u8 (b:Int):=(hS.tmp 28).trans (hd.at 14 rfl)
   have r31:ρ (.tmp 31)=.int .u8 ((2 ^ q - 1:Nat):Int):=(hS.tmp 31).trans (hd.at 17 rfl)
   refine (show givesR _ _ _ _ (fun v w''=>Ext w' w''∧v=.int .u8 ((b % 2 ^ q:Nat):Int)) from ?_)
   clear hC hd hS
   go_simp
   exact ⟨Ext.refl _,p_and3 HB8.out HQ8.out.2⟩
  ·intro bb vals ρ w' hC hd hS
   have r32:ρ (.tmp 32)=.int .u8 ((b % 2 ^ q:Nat):Int):=(hS.tmp 32).trans (hd.at 18 rfl)
   have rc:=hS.const
   refine (show givesR _ _ _ _ (fun v w''=>Ext w' w''∧v=.bool z) from ?_)
   clear hC hd hS
   go_simp
   exact ⟨Ext.refl _,HZ.out⟩
  ·intro bb vals ρ w' hC hd hS
   have r16:ρ (.tmp 16)=.bool true:=(hS.tmp 16).trans (hd.at 2 rfl)
   have r33:ρ (.tmp 33)=.bool z:=(hS.tmp 33).trans (hd.at 19 rfl)
   have rc:=hS.const
   refine (show givesR _ _ _ _ (fun v w''=>Ext w' w''∧v=.bool z) from ?_)
   clear hC hd hS
   go_simp
   exact Ext.refl _
 intro vals w' hC hV
 have e20:=hV 20 (by decide)
 simp only [vlist,ex,List.getD_cons_zero,List.getD_cons_succ] at e20
 have HC':=Lib.hid hC;clear hC hV
 simp only [List.drop_succ_cons,List.drop_zero]
 go_simp -- the frame
 cases z
 ·go_wp2
  go_ret
  exact ⟨rfl,((Ext.refl w).drewN nd).trans HC'.out⟩
 ·go_wp2
  go_ret
  exact ⟨rfl,((Ext.refl w).drewN nd).trans HC'.out⟩
theorem rend_c (rb B:Nat) (l:List UInt8) (at':Nat) (err:Int) (w:World) (h:RdIs w B rb l at' err) (hl:l.length≤140737488355328) (ha:at'≤8 * l.length):
  Calls Try.prog 130 #[.pointer (some ⟨rb,0,none⟩)] w fun e w'=>e=.returned (.int .i64 (endI l at' err))∧Ext w w':=by
 by_cases h0:err=0
 ·subst h0
  by_cases h8:at'+8≤8 * l.length
  ·have e:endI l at' 0=6:=by
    unfold endI endB
    rw [if_neg (by simp),if_neg (by rw [decide_eq_true_eq];omega)]
   rw [e]
   exact rend_many rb B l at' w h hl ha h8
  ·by_cases h9:at'=8 * l.length
   ·have e:endI l at' 0=0:=by
     unfold endI endB
     rw [if_neg (by simp),if_pos]
     rw [decide_eq_true_eq]
     refine ⟨by omega,?_⟩
     rw [show 8 * l.length - at'=0 by omega];rfl
    rw [e]
    exact rend_none rb B l at' w h hl ha h9
   ·have e:endI l at' 0=if val (bitsFrom l at' (8 * l.length - at'))=0 then 0 else 6:=by
     unfold endI endB
     rw [if_neg (by simp)]
     by_cases hv:val (bitsFrom l at' (8 * l.length - at'))=0
     ·rw [if_pos hv,if_pos (by rw [decide_eq_true_eq];exact ⟨by omega,hv⟩)]
     ·rw [if_neg hv,if_neg (by rw [decide_eq_true_eq];exact fun h=>hv h.2)]
    rw [e]
    exact rend_some rb B l at' w h hl ha (by omega) (by omega)
 ·have e:endI l at' err=err:=by unfold endI;rw [if_pos h0]
  rw [e]
  exact rend_err rb B l at' err w h hl ha h0
def bytesFrom (l:List UInt8) (at' n:Nat):List UInt8:=(List.range n).map fun i=>UInt8.ofNat (val (bitsFrom l (at'+8 * i) 8))
theorem bytesFrom_length (l:List UInt8) (at' n:Nat):(bytesFrom l at' n).length=n:=by simp [bytesFrom]
theorem bytesFrom_succ (l:List UInt8) (at' n:Nat):bytesFrom l at' (n+1)=bytesFrom l at' n++[UInt8.ofNat (val (bitsFrom l (at'+8 * n) 8))]:=by simp [bytesFrom,List.range_succ]
theorem byte_wrap {v:Nat}:(v:Int) % 256=((UInt8.ofNat v).toNat:Int):=by
 rw [UInt8.toNat_ofNat'];simp
set_option maxHeartbeats 4000000 in
theorem rtext_ok (rb B:Nat) (l:List UInt8) (at' n:Nat) (w:World) (h:RdIs w B rb l at' 0) (hn:n=val (bitsFrom l at' 16)) (hf:at'+16+8 * n≤8 * l.length) (hl:l.length≤140737488355328):
  Calls Try.prog 206 #[.pointer (some ⟨rb,0,none⟩)] w fun e w'=>e=.returned (.string ⟨(bytesFrom l (at'+16) n).toArray⟩)∧RdIs w' B rb l (at'+16+8 * n) 0∧Mod (fun k=>k=rb) w w':=by
 have hn16:n<65536:=by
  have h1:=val_lt (bitsFrom l at' 16)
  rw [bitsFrom_length (by omega)] at h1
  omega
 have hg:=rget_ok rb B l at' 16 w h (by decide) (by omega) hl
 rw [← hn] at hg
 have HG:=Lib.hid hg
 have HF:=Lib.hid hf
 have HL:=Lib.hid hl
 have HN:=Lib.hid hn16
 have hcv:IntKind.i64.wrap (n:Int)=(n:Int):=by rw [IntKind.wrap_i64];omega
 have hmul:IntKind.i64.wrap (8 * (n:Int))=8 * (n:Int):=by rw [IntKind.wrap_i64];omega
 have hnb:n≤9223372036854775806:=by omega
 have H:=Lib.hid h
 clear hg hf hl hn hn16 h
 go_enter Try.func206,Try.ntmps206
 go_wp2_with fail
 refine HG.out.mono ?_
 rintro e w1 ⟨rfl,h1,hm1⟩
 have H1:=Lib.hid h1
 have HM1:=Lib.hid hm1
 clear h1 hm1
 go_wp2_with fail
 refine (rerr_c rb B l (at'+16) 0 w1 H1.out).mono ?_
 rintro e w2 ⟨rfl,rfl⟩
 have hlf:=rleft_c rb B l (at'+16) 0 w1 H1.out HL.out (by have:=HF.out;omega)
 have hlt:(leftI l (at'+16) 0<8 * (n:Int))=False:=eq_false (by rw [leftI_zero];have:=HF.out;omega)
 generalize leftI l (at'+16) 0=lf at hlf hlt
 have HLF:=Lib.hid hlf
 clear hlf
 go_wp2_with fail
 refine HLF.out.mono ?_
 rintro e w2 ⟨rfl,nd,rfl⟩
 have HX2:=Lib.hid (H1.out.ext ((Ext.refl w1).drewN nd))
 have HM2:=Lib.hid (HM1.out.drewN nd)
 generalize w1.drewN nd=w2 at HX2 HM2 ⊢
 go_wp2_with fail
 refine (rerr_c rb B l (at'+16) 0 w2 HX2.out).mono ?_
 rintro e w3 ⟨rfl,rfl⟩
 obtain ⟨w4,hmk,hown4,hx4⟩:=make_bytes n (by have:=HN.out;omega) w2
 obtain ⟨g,hg⟩:∃ g,g=w2.heap.size:=⟨_,rfl⟩
 rw [← hg] at hmk hown4
 have HRB:Hid (rb<g):=Lib.hid (by rw [hg];exact HX2.out.lt)
 have HWG:Hid (w.heap.size≤g):=Lib.hid (by rw [hg];exact HM2.out.size)
 have H4:=Lib.hid (HX2.out.ext hx4)
 have HM4:=Lib.hid (HM2.out.ext hx4)
 have HO4:=Lib.hid hown4
 clear hown4 hx4 hg
 go_wp2_with fail
 clear hmk
 go_loopw [29] (fun i wr=>∃ k:Nat,k≤n∧i=.int .i64 k∧RdIs wr B rb l (at'+16+8 * k) 0∧wr.ownsRow g 5 1 (.slice (some ⟨g,0,none⟩) n n) n ((bytesFrom l (at'+16) k++List.replicate (n - k) 0).map bv)∧Mod (fun k=>k=rb) w wr) (fun i _=>n - (intOf i).toNat)
 case atStart=>exact ⟨0,Nat.zero_le _,rfl,H4.out,by simpa [bytesFrom] using HO4.out,HM4.out⟩
 case round=>
  obtain ⟨k,hk,rfl,hr,ho,hm⟩:=hrel
  have HR:=Lib.hid hr
  have HO:=Lib.hid ho
  have HM:=Lib.hid hm
  clear hr ho hm
  by_cases hlt:k<n
  ·have hgt:=rget_ok rb B l (at'+16+8 * k) 8 _ HR.out (by decide) (by have:=HF.out;omega) HL.out
   have hbs:=bytesFrom_succ l (at'+16) k
   generalize val (bitsFrom l (at'+16+8 * k) 8)=v at hgt hbs
   have HGT:=Lib.hid hgt
   have HBS:=Lib.hid hbs
   clear hgt hbs
   go_wp2_with fail
   refine HGT.out.mono ?_
   rintro e w5 ⟨rfl,h5,hm5⟩
   have ho5:=owns_mod HO.out hm5 fun q hq e=>by
    have:=HRB.out
    have hq':g=q:=by simpa [Value.ownBlock] using hq
    omega
   have hcell:w5.cell? ⟨g,k,none⟩=some (.int .u8 0):=by
    rw [World.ownsRow.cellAt ho5 _ (by omega)]
    rw [List.getElem?_map,List.getElem?_append_right (by rw [bytesFrom_length];exact Nat.le_refl _),bytesFrom_length,Nat.sub_self,List.getElem?_replicate,if_pos (by omega)]
    rfl
   have hfz:w5.frozen? ⟨g,k,none⟩=false:=World.ownsRow.frozenAt ho5 _
   have H5:=Lib.hid h5
   have HM5:=Lib.hid (HM.out.trans hm5 fun _ h _=>h)
   have HO5:=Lib.hid ho5
   have hki:(k:Int)<(n:Int):=by omega
   clear h5 hm5 ho5
   go_wp2_with fail
   rw [byte_wrap]
   go_roundw
   case rel=>
    refine ⟨k+1,by omega,by go_num,?_,?_,?_⟩
    ·have:=H5.out.setOther HRB.out k (.int .u8 ((UInt8.ofNat v).toNat:Int))
     rwa [show at'+16+8 * (k+1)=at'+16+8 * k+8 by omega]
    ·have:=(World.ownsRow.stored HO5.out k (.int .u8 ((UInt8.ofNat v).toNat:Int))).1
     rw [HBS.out]
     have e:((bytesFrom l (at'+16) k++List.replicate (n - k) 0).map bv).set k (.int .u8 ((UInt8.ofNat v).toNat:Int))=(bytesFrom l (at'+16) k++[UInt8.ofNat v]++List.replicate (n - (k+1)) 0).map bv:=by
      rw [show n - k=n - (k+1)+1 by omega,List.replicate_succ,List.map_append,List.set_append_right _ _ (by simp [bytesFrom_length])]
      simp [bytesFrom_length,bv]
     rwa [e] at this
    ·exact Mod.setCell (F:=fun k=>k=rb) (p:=⟨g,k,none⟩) HM5.out (fun hl=>by have:=HWG.out;have hl':g<w.heap.size:=hl;omega) _
   case measure=>simp [intOf];omega
  ·have hkn:k=n:=by omega
   have hconv:=convert_bytes (v:=.slice (some ⟨g,0,none⟩) n n) (l:=bytesFrom l (at'+16) n) (w:=wr) (by
    have:=Rs.of_owns HO.out
    rw [hkn,Nat.sub_self,List.replicate_zero,List.append_nil] at this
    unfold Bs
    rwa [bytesFrom_length])
   have hkl:((k:Int)<(n:Int))=False:=eq_false (by omega)
   have HK:=Lib.hid hkn
   clear hlt hkn
   go_wp2_with fail
   go_ret
   refine ⟨rfl,?_,HM.out⟩
   have:=HR.out
   rwa [HK.out] at this
def putL (bl:List Bool) (err:Int) (x:Nat) (n:Int):List Bool:=if err=0∧fitsN x n then bl++bitsOf x n.toNat else bl
def putE (err:Int) (x:Nat) (n:Int):Int:=if err=0∧¬ fitsN x n then 2 else err
theorem wput_c (wb B:Nat) (bl:List Bool) (err:Int) (x:Nat) (n:Int) (w:World) (h:WrIs w B wb bl err) (hx:x<18446744073709551616) (hi:-9223372036854775808≤n∧n≤9223372036854775807) (hl:bl.length≤549755813888):
  Calls Try.prog 119 #[.pointer (some ⟨wb,0,none⟩),.int .u64 x,.int .i64 n] w fun r w'=>r=.returned (.pointer (some ⟨wb,0,none⟩))∧WrIs w' B wb (putL bl err x n) (putE err x n)∧WrMod wb w w':=by
 by_cases h0:err=0
 ·subst h0
  by_cases hf:fitsN x n
  ·have hf':=hf
   obtain ⟨f1,f2,f3⟩:=hf
   obtain ⟨m,rfl⟩:=Int.eq_ofNat_of_zero_le f1
   rw [putL,putE,if_pos ⟨rfl,hf'⟩,if_neg (fun h=>h.2 hf'),Int.toNat_natCast]
   rw [Int.toNat_natCast] at f3
   exact put_ok wb B bl x m w h (by omega) f3 (by omega)
  ·rw [putL,putE,if_neg (fun h=>hf h.2),if_pos ⟨rfl,hf⟩]
   exact put_bad wb B bl x n w h hx hf hi
 ·rw [putL,putE,if_neg (fun h=>h0 h.1),if_neg (fun h=>h0 h.1)]
  refine (put_err wb B bl err x n w h h0).mono ?_
  rintro r w' ⟨h1,rfl⟩
  exact ⟨h1,h,WrMod.of_ext (Ext.refl w) h.lt⟩
def textL (bl:List Bool) (err:Int) (s:ByteArray):List Bool:=if err=0 then bl++textBits s.data.toList else bl
def bb (b:Bool):UInt8:=if b then 1 else 0
def bbs (l:List Bool):List UInt8:=l.map bb
theorem bbs_length (l:List Bool):(bbs l).length=l.length:=by simp [bbs]
theorem bbs_append (l m:List Bool):bbs (l++m)=bbs l++bbs m:=List.map_append
end Go.Proofs.Ytiiekgcjilelpaa
