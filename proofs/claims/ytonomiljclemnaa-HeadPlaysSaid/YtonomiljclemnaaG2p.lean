/- G2. -/
import Derived.Test.YtonomiljclemnaaG1p
import Derived.Test.YtonomiljclemnaaOpenp
import Derived.Test.YtonomiljclemnaaG0p
set_option linter.unusedVariables false
set_option linter.unusedSimpArgs false
namespace Go.Proofs.Ytonomiljclemnaa
open Go.RowKit
set_option maxHeartbeats 1000000 in
theorem rget_err (rb B:Nat) (l:List UInt8) (at':Nat) (err n:Int) (w:World) (h:RdIs w B rb l at' err) (h0:err≠0):
  Calls Try.prog 56 #[.pointer (some ⟨rb,0,none⟩),.int .i64 n] w fun e w'=>e=.returned (.int .u64 0)∧w=w':=by
 have H:=Lib.hid h;clear h
 have hb:(err != 0)=true:=by simpa using h0
 clear h0
 go_enter Try.func56,Try.ntmps56
 go_wp2_with fail
 refine (rerr_c rb B l at' err w H.out).mono ?_
 rintro e w1 ⟨rfl,rfl⟩
 go_wp2
 go_ret
 exact ⟨rfl,rfl⟩
set_option maxHeartbeats 1000000 in
theorem rget_arg (rb B:Nat) (l:List UInt8) (at':Nat) (n:Int) (w:World) (h:RdIs w B rb l at' 0) (hn:n<0∨64<n):
  Calls Try.prog 56 #[.pointer (some ⟨rb,0,none⟩),.int .i64 n] w fun e w'=>e=.returned (.int .u64 0)∧RdIs w' B rb l at' 2∧Mod (fun k=>k=rb) w w':=by
 have c3:=h.c3
 have f3:=h.fz 3
 have H:=Lib.hid h;clear h
 rcases hn with hn|hn
 all_goals
  go_enter Try.func56,Try.ntmps56
  go_wp2_with fail
  refine (rerr_c rb B l at' 0 w H.out).mono ?_
  rintro e w1 ⟨rfl,rfl⟩
  go_wp2
  go_ret
  exact ⟨rfl,H.out.setErr 2,Mod.setCell (F:=fun k=>k=rb) (p:=⟨rb,3,none⟩) (Mod.refl _ w) (fun _=>rfl) _⟩
set_option maxHeartbeats 1000000 in
theorem rget_short (rb B:Nat) (l:List UInt8) (at':Nat) (n:Int) (w:World) (h:RdIs w B rb l at' 0) (hn:0≤n) (hn':n≤64) (hf:8 * (l.length:Int)<(at':Int)+n) (hl:l.length≤140737488355328) (ha:at'≤8 * l.length):
  Calls Try.prog 56 #[.pointer (some ⟨rb,0,none⟩),.int .i64 n] w fun e w'=>e=.returned (.int .u64 0)∧RdIs w' B rb l at' 3∧Mod (fun k=>k=rb) w w':=by
 have H:=Lib.hid h;clear h
 have HL:=Lib.hid hl
 have HA:=Lib.hid ha
 have hleft:leftI l at' 0<n:=by rw [leftI_zero];omega
 generalize hlf:leftI l at' 0=lf at hleft
 have HLF:=Lib.hid hlf
 clear hlf hf hl ha
 go_enter Try.func56,Try.ntmps56
 go_wp2_with fail
 refine (rerr_c rb B l at' 0 w H.out).mono ?_
 rintro e w1 ⟨rfl,rfl⟩
 go_wp2_with fail
 refine (rleft_c rb B l at' 0 w H.out HL.out HA.out).mono ?_
 rintro e w1 ⟨rfl,nd,rfl⟩
 rw [HLF.out]
 have H':=Lib.hid (H.out.ext ((Ext.refl w).drewN nd))
 have c3:=H'.out.c3
 have f3:=H'.out.fz 3
 go_wp2
 go_ret
 exact ⟨rfl,H'.out.setErr 3,Mod.setCell (F:=fun k=>k=rb) (p:=⟨rb,3,none⟩) ((Ext.refl w).drewN nd).mod (fun _=>rfl) _⟩
def getV (l:List UInt8) (at':Nat) (err n:Int):Nat:=if err=0∧0≤n∧n≤64∧(at':Int)+n≤8 * (l.length:Int) then val (bitsFrom l at' n.toNat) else 0
def getAt (l:List UInt8) (at':Nat) (err n:Int):Nat:=if err=0∧0≤n∧n≤64∧(at':Int)+n≤8 * (l.length:Int) then at'+n.toNat else at'
def getE (l:List UInt8) (at':Nat) (err n:Int):Int:=if err≠0 then err else if n<0∨64<n then 2 else if 8 * (l.length:Int)<(at':Int)+n then 3 else 0
theorem rget_c (rb B:Nat) (l:List UInt8) (at':Nat) (err n:Int) (w:World) (h:RdIs w B rb l at' err) (hl:l.length≤140737488355328) (ha:at'≤8 * l.length):
  Calls Try.prog 56 #[.pointer (some ⟨rb,0,none⟩),.int .i64 n] w fun e w'=>e=.returned (.int .u64 (getV l at' err n:Int))∧RdIs w' B rb l (getAt l at' err n) (getE l at' err n)∧Mod (fun k=>k=rb) w w':=by
 by_cases h0:err=0
 ·subst h0
  by_cases h1:n<0∨64<n
  ·have e:¬ ((0:Int)=0∧0≤n∧n≤64∧(at':Int)+n≤8 * (l.length:Int)):=by omega
   rw [getV,getAt,getE,if_neg e,if_neg e,if_neg (by simp),if_pos h1]
   exact rget_arg rb B l at' n w h h1
  ·by_cases h2:8 * (l.length:Int)<(at':Int)+n
   ·have e:¬ ((0:Int)=0∧0≤n∧n≤64∧(at':Int)+n≤8 * (l.length:Int)):=by omega
    rw [getV,getAt,getE,if_neg e,if_neg e,if_neg (by simp),if_neg h1,if_pos h2]
    exact rget_short rb B l at' n w h (by omega) (by omega) h2 hl ha
   ·have e:((0:Int)=0∧0≤n∧n≤64∧(at':Int)+n≤8 * (l.length:Int)):=by omega
    rw [getV,getAt,getE,if_pos e,if_pos e,if_neg (by simp),if_neg h1,if_neg h2]
    obtain ⟨m,rfl⟩:=Int.eq_ofNat_of_zero_le (show 0≤n by omega)
    rw [Int.toNat_natCast]
    exact rget_ok rb B l at' m w h (by omega) (by omega) hl
 ·have e:¬ (err=0∧0≤n∧n≤64∧(at':Int)+n≤8 * (l.length:Int)):=by omega
  rw [getV,getAt,getE,if_neg e,if_neg e,if_pos h0]
  refine (rget_err rb B l at' err n w h h0).mono ?_
  rintro e w' ⟨h1,rfl⟩
  exact ⟨h1,h,Mod.refl _ w⟩
theorem WrIs.fge {w:World} {B wb:Nat} {l:List Bool} {err:Int} (h:WrIs w B wb l err):∀ k,WrF w wb k→B≤k:=by
 obtain ⟨ao,cap,h1,h2,h3⟩:=h
 rintro k (rfl|⟨v,q1,q2⟩)
 ·exact h2
 ·rw [cell_of_blk h1] at q1
  simp only [List.size_toArray,List.getElem?_toArray,List.getElem?_cons_succ,List.getElem?_cons_zero,Option.some.injEq] at q1
  subst q1
  exact (owns_block h3 q2).1
end Go.Proofs.Ytonomiljclemnaa
set_option linter.unusedVariables false
set_option linter.unusedSimpArgs false
namespace Go.Proofs.Ytonomiljclemnaa
open Go.RowKit
end Go.Proofs.Ytonomiljclemnaa
set_option linter.unusedVariables false
set_option linter.unusedSimpArgs false
namespace Go.Proofs.Ytonomiljclemnaa
open Go.RowKit
theorem p_and3 {b q:Nat} (hb:b<256) (h8:q≤8):bits .and .u8 (b:Int) ((2 ^ q - 1:Nat):Int)=((b:Int) % 2 ^ q):=by
 have h1:=u8_and_nat b (2 ^ q - 1) hb (by have:=p_pow8 h8;have:=Nat.two_pow_pos q;omega)
 rw [Nat.and_two_pow_sub_one_eq_mod] at h1
 rw [h1]
 simp
def endB (l:List UInt8) (at':Nat):Bool:=decide (8 * l.length<at'+8∧val (bitsFrom l at' (8 * l.length - at'))=0)
def endI (l:List UInt8) (at':Nat) (err:Int):Int:=if err≠0 then err else if endB l at'=true then 0 else 6
set_option maxRecDepth 100000 in
set_option maxHeartbeats 1000000 in
theorem rend_err (rb B:Nat) (l:List UInt8) (at':Nat) (err:Int) (w:World) (h:RdIs w B rb l at' err) (hl:l.length≤140737488355328) (ha:at'≤8 * l.length) (h0:err≠0):
  Calls Try.prog 57 #[.pointer (some ⟨rb,0,none⟩)] w fun e w'=>e=.returned (.int .i64 err)∧Ext w w':=by
 have H:=Lib.hid h;clear h
 have hb:(err != 0)=true:=by simpa using h0
 clear h0 hl ha
 go_enter Try.func57,Try.ntmps57
 go_wp2_with fail
 refine (rerr_c rb B l at' err w H.out).mono ?_
 rintro e w1 ⟨rfl,rfl⟩
 go_wp2
 go_ret
 exact ⟨rfl,Ext.refl w⟩
set_option maxRecDepth 100000 in
set_option maxHeartbeats 1000000 in
theorem rend_many (rb B:Nat) (l:List UInt8) (at':Nat) (w:World) (h:RdIs w B rb l at' 0) (hl:l.length≤140737488355328) (ha:at'≤8 * l.length) (h8:at'+8≤8 * l.length):
  Calls Try.prog 57 #[.pointer (some ⟨rb,0,none⟩)] w fun e w'=>e=.returned (.int .i64 6)∧Ext w w':=by
 have H:=Lib.hid h;clear h
 obtain ⟨q,hq⟩:∃ q,q=8 * l.length - at':=⟨_,rfl⟩
 have HLF:Hid (leftI l at' 0=(q:Int)):=Lib.hid (by rw [leftI_zero];omega)
 have HL:=Lib.hid hl
 have HA:=Lib.hid ha
 have hq8:8≤q:=by omega
 clear hl ha hq h8
 go_enter Try.func57,Try.ntmps57
 go_wp2_with fail
 refine (rerr_c rb B l at' 0 w H.out).mono ?_
 rintro e w1 ⟨rfl,rfl⟩
 go_wp2_with fail
 refine (rleft_c rb B l at' 0 w H.out HL.out HA.out).mono ?_
 rintro e w1 ⟨rfl,nd,rfl⟩
 rw [HLF.out]
 go_wp2
 go_ret
 exact ⟨rfl,(Ext.refl w).drewN nd⟩
set_option maxRecDepth 100000 in
set_option maxHeartbeats 1000000 in
theorem rend_none (rb B:Nat) (l:List UInt8) (at':Nat) (w:World) (h:RdIs w B rb l at' 0) (hl:l.length≤140737488355328) (ha:at'≤8 * l.length) (h8:at'=8 * l.length):
  Calls Try.prog 57 #[.pointer (some ⟨rb,0,none⟩)] w fun e w'=>e=.returned (.int .i64 0)∧Ext w w':=by
 have H:=Lib.hid h;clear h
 obtain ⟨q,hq⟩:∃ q,q=8 * l.length - at':=⟨_,rfl⟩
 have HLF:Hid (leftI l at' 0=(q:Int)):=Lib.hid (by rw [leftI_zero];omega)
 have HL:=Lib.hid hl
 have HA:=Lib.hid ha
 have HQ0:Hid (q=0):=Lib.hid (by omega)
 have hlt:((0:Int)<(q:Int))=False:=eq_false (by omega)
 have hq8':((8:Int)≤(q:Int))=False:=eq_false (by omega)
 clear hl ha hq h8
 go_enter Try.func57,Try.ntmps57
 go_wp2_with fail
 refine (rerr_c rb B l at' 0 w H.out).mono ?_
 rintro e w1 ⟨rfl,rfl⟩
 go_wp2_with fail
 refine (rleft_c rb B l at' 0 w H.out HL.out HA.out).mono ?_
 rintro e w1 ⟨rfl,nd,rfl⟩
 rw [HLF.out]
 go_wp2_with fail
 refine wp_region_rx 21 _
  [ex (.int .i64 (q:Int)),
   ex (.bool false),
   ex (.bool false),
   ex undef,
   ex undef,
   ex undef,
   ex undef,
   ex undef,
   ex undef,
   ex undef,
   ex undef,
   ex undef,
   ex undef,
   ex undef,
   ex undef,
   ex undef,
   ex undef,
   ex undef,
   ex undef,
   ex undef,
   ex (.bool false)]
  (by kernel_rfl) (by kernel_rfl) (by kernel_rfl) rfl ⟨ex_st,ex_st,ex_st,ex_st,ex_st,ex_st,ex_st,ex_st,ex_st,ex_st,ex_st,ex_st,ex_st,ex_st,ex_st,ex_st,ex_st,ex_st,ex_st,ex_st,ex_st,trivial⟩ ?_ ?_
 ·simp only [List.take_succ_cons,List.take_zero]
  go_tidy
  refine RhOps.mk (RhOp.moveA (by decide) (.free rfl) 4 (fun _ w _=>Ext.refl w) rfl rfl (.int .i64 (q:Int)) rfl (fun _ _ _=>rfl)) ?_
  refine RhOps.mk (RhOp.at (by decide) (.free rfl) ?_) ?_
  rotate_left
  refine RhOps.mk (RhOp.move (by decide) (.free rfl) 15 1 (fun _ w _=>Ext.refl w) rfl rfl rfl (fun _ _ h=>h)) ?_
  refine RhOps.mk (RhOp.off (by decide) (.by 2 true rfl (fun _ _ h=>h)) (fun _ _ _=>rfl)) ?_
  refine RhOps.mk (RhOp.off (by decide) (.by 2 true rfl (fun _ _ h=>h)) (fun _ _ _=>rfl)) ?_
  refine RhOps.mk (RhOp.off (by decide) (.by 2 true rfl (fun _ _ h=>h)) (fun _ _ _=>rfl)) ?_
  refine RhOps.mk (RhOp.off (by decide) (.by 2 true rfl (fun _ _ h=>h)) (fun _ _ _=>rfl)) ?_
  refine RhOps.mk (RhOp.off (by decide) (.by 2 true rfl (fun _ _ h=>h)) (fun _ _ _=>rfl)) ?_
  refine RhOps.mk (RhOp.off (by decide) (.by 2 true rfl (fun _ _ h=>h)) (fun _ _ _=>rfl)) ?_
  refine RhOps.mk (RhOp.off (by decide) (.by 2 true rfl (fun _ _ h=>h)) (fun _ _ _=>rfl)) ?_
  refine RhOps.mk (RhOp.off (by decide) (.by 2 true rfl (fun _ _ h=>h)) (fun _ _ _=>rfl)) ?_
  refine RhOps.mk (RhOp.off (by decide) (.by 2 true rfl (fun _ _ h=>h)) (fun _ _ _=>rfl)) ?_
  refine RhOps.mk (RhOp.off (by decide) (.by 2 true rfl (fun _ _ h=>h)) (fun _ _ _=>rfl)) ?_
  refine RhOps.mk (RhOp.off (by decide) (.by 2 true rfl (fun _ _ h=>h)) (fun _ _ _=>rfl)) ?_
  refine RhOps.mk (RhOp.off (by decide) (.by 2 true rfl (fun _ _ h=>h)) (fun _ _ _=>rfl)) ?_
  refine RhOps.mk (RhOp.off (by decide) (.by 2 true rfl (fun _ _ h=>h)) (fun _ _ _=>rfl)) ?_
  refine RhOps.mk (RhOp.off (by decide) (.by 2 true rfl (fun _ _ h=>h)) (fun _ _ _=>rfl)) ?_
  refine RhOps.mk (RhOp.off (by decide) (.by 2 true rfl (fun _ _ h=>h)) (fun _ _ _=>rfl)) ?_
  refine RhOps.mk (RhOp.off (by decide) (.by 2 true rfl (fun _ _ h=>h)) (fun _ _ _=>rfl)) ?_
  refine RhOps.mk (RhOp.off (by decide) (.by 2 true rfl (fun _ _ h=>h)) (fun _ _ _=>rfl)) ?_
  refine RhOps.mk (RhOp.at (by decide) (.free rfl) ?_) ?_
  rotate_left
  exact RhOps.done
  ·intro bb vals ρ w' hC hd hS
   have r14:ρ (.tmp 14)=.int .i64 (q:Int):=(hS.tmp 14).trans (hd.at 0 rfl)
   have rc:=hS.const
   refine (show givesR _ _ _ _ (fun v w''=>Ext w' w''∧v=.bool false) from ?_)
   clear hC hd hS
   go_simp
   exact ⟨Ext.refl _,HQ0.out⟩
  ·intro bb vals ρ w' hC hd hS
   have r16:ρ (.tmp 16)=.bool false:=(hS.tmp 16).trans (hd.at 2 rfl)
   have r33:ρ (.tmp 33)=undef:=(hS.tmp 33).trans (hd.at 19 rfl)
   have rc:=hS.const
   refine (show givesR _ _ _ _ (fun v w''=>Ext w' w''∧v=.bool false) from ?_)
   clear hC hd hS
   go_simp
   exact Ext.refl _
 intro vals w' hC hV
 have e20:=hV 20 (by decide)
 simp only [vlist,ex,List.getD_cons_zero,List.getD_cons_succ] at e20
 have HC':=Lib.hid hC;clear hC hV
 simp only [List.drop_succ_cons,List.drop_zero]
 go_simp -- the frame
 go_wp2
 go_ret
 exact ⟨rfl,((Ext.refl w).drewN nd).trans HC'.out⟩
set_option maxRecDepth 100000 in
set_option maxHeartbeats 1000000 in
theorem rend_some (rb B:Nat) (l:List UInt8) (at':Nat) (w:World) (h:RdIs w B rb l at' 0) (hl:l.length≤140737488355328) (ha:at'≤8 * l.length) (h8:8 * l.length<at'+8) (h9:at'<8 * l.length):
  Calls Try.prog 57 #[.pointer (some ⟨rb,0,none⟩)] w fun e w'=>e=.returned (.int .i64 (if val (bitsFrom l at' (8 * l.length - at'))=0 then 0 else 6))∧Ext w w':=by
 have H:=Lib.hid h;clear h
 obtain ⟨q,hq⟩:∃ q,q=8 * l.length - at':=⟨_,rfl⟩
 have HLF:Hid (leftI l at' 0=(q:Int)):=Lib.hid (by rw [leftI_zero];omega)
 have HL:=Lib.hid hl
 have HA:=Lib.hid ha
 have hql:0<l.length:=by omega
 obtain ⟨ao,cap,hb1,hb2,hb3,hb4⟩:=H.out
 obtain ⟨g,cap',he,hg1,hg2⟩:=World.ownsRow.form hb3 hql
 simp only [Value.slice.injEq] at he
 obtain ⟨rfl,_,rfl⟩:=he
 obtain ⟨ln,hln⟩:∃ ln,ln=l.length:=⟨_,rfl⟩
 obtain ⟨j,hj⟩:∃ j,j=at' / 8:=⟨_,rfl⟩
 obtain ⟨b,hb⟩:∃ b,b=(l.getD j 0).toNat:=⟨_,rfl⟩
 obtain ⟨z,hz⟩:∃ z:Bool,z=((b:Int) % 2 ^ q != 0):=⟨_,rfl⟩
 have hjl:j<l.length:=by omega
 have hbb:b<256:=by rw [hb];exact UInt8.toNat_lt _
 have e:(if val (bitsFrom l at' (8 * l.length - at'))=0 then (0:Int) else 6)=if z=true then 6 else 0:=by
  rw [← hq,bitsFrom_piece (by omega) (by omega),←hj,←hb,show 8 - at' % 8 - q=0 by omega,Nat.pow_zero,Nat.div_one]
  have hz':z=true↔b % 2 ^ q≠0:=by
   rw [hz,bne_iff_ne]
   have:((b:Int) % 2 ^ q)=((b % 2 ^ q:Nat):Int):=by push_cast;rfl
   rw [this];omega
  by_cases hc:b % 2 ^ q=0
  ·rw [if_pos hc,if_neg (by rw [hz'];simp [hc])]
  ·rw [if_neg hc,if_pos (hz'.2 hc)]
 rw [e]
 have HJ:Hid (IntKind.i64.wrap ((ln:Int) - 1)=(j:Int)∧(j:Int)<(ln:Int)):=Lib.hid ⟨by rw [IntKind.wrap_i64];omega,by omega⟩
 have HQ8:Hid (0<q∧q≤8):=Lib.hid (by omega)
 have hq8'':q≤8:=HQ8.out.2
 have HB8:=Lib.hid hbb
 have HZ:Hid (((b:Int) % 2 ^ q != 0)=z):=Lib.hid hz.symm
 have hlt:((0:Int)<(q:Int))=True:=eq_true (by omega)
 have hq8':((8:Int)≤(q:Int))=False:=eq_false (by omega)
 have c1:w.cell? ⟨rb,1,none⟩=some (.slice (some ⟨g,0,none⟩) ln cap):=by rw [cell_of_blk hb1,hln];rfl
 have cg:w.cell? ⟨g,j,none⟩=some (.int .u8 (b:Int)):=by
  rw [World.ownsRow.cellAt hb3 _ (by omega),hb]
  simp [bv,List.getD,List.getElem?_eq_getElem hjl]
 clear hl ha hq e hb1 hb2 hb3 hb4 hg1 hg2 hln hj hb hz hjl hbb hql h8 h9
 go_enter Try.func57,Try.ntmps57
 go_wp2_with fail
 refine (rerr_c rb B l at' 0 w H.out).mono ?_
 rintro e w1 ⟨rfl,rfl⟩
 go_wp2_with fail
 refine (rleft_c rb B l at' 0 w H.out HL.out HA.out).mono ?_
 rintro e w1 ⟨rfl,nd,rfl⟩
 rw [HLF.out]
 go_wp2_with fail
 refine wp_region_rx 21 _
  [ex (.int .i64 (q:Int)),
   ex (.bool true),
   ex (.bool true),
   ex (.pointer (some ⟨rb,0,none⟩)),
   ex (.pointer (some ⟨rb,0,none⟩)),
   ex (.pointer (some ⟨rb,1,none⟩)),
   ex (.slice (some ⟨g,0,none⟩) ln cap),
   ex (.pointer (some ⟨rb,0,none⟩)),
   ex (.pointer (some ⟨rb,0,none⟩)),
   ex (.pointer (some ⟨rb,1,none⟩)),
   ex (.slice (some ⟨g,0,none⟩) ln cap),
   ex (.int .i64 (ln:Int)),
   ex (.int .i64 (j:Int)),
   ex (.pointer (some ⟨g,j,none⟩)),
   ex (.int .u8 (b:Int)),
   ex (.int .i64 (q:Int)),
   ex (.int .u8 ((2 ^ q % 256:Nat):Int)),
   ex (.int .u8 ((2 ^ q - 1:Nat):Int)),
   ex (.int .u8 ((b % 2 ^ q:Nat):Int)),
   ex (.bool z),
   ex (.bool z)]
  (by kernel_rfl) (by kernel_rfl) (by kernel_rfl) rfl ⟨ex_st,ex_st,ex_st,ex_st,ex_st,ex_st,ex_st,ex_st,ex_st,ex_st,ex_st,ex_st,ex_st,ex_st,ex_st,ex_st,ex_st,ex_st,ex_st,ex_st,ex_st,trivial⟩ ?_ ?_
 ·simp only [List.take_succ_cons,List.take_zero]
  go_tidy
  refine RhOps.mk (RhOp.moveA (by decide) (.free rfl) 4 (fun _ w _=>Ext.refl w) rfl rfl (.int .i64 (q:Int)) rfl (fun _ _ _=>rfl)) ?_
  refine RhOps.mk (RhOp.at (by decide) (.free rfl) ?_) ?_
  rotate_left
  refine RhOps.mk (RhOp.move (by decide) (.free rfl) 15 1 (fun _ w _=>Ext.refl w) rfl rfl rfl (fun _ _ h=>h)) ?_
  refine RhOps.mk (RhOp.moveA (by decide) (.on 2 true rfl (fun _ _ h=>h)) 0 (fun _ w _=>Ext.refl w) rfl rfl (.pointer (some ⟨rb,0,none⟩)) rfl (fun _ _ _=>rfl)) ?_
  refine RhOps.mk (RhOp.at (by decide) (.on 2 true rfl (fun _ _ h=>h)) ?_) ?_
  rotate_left
  refine RhOps.mk (RhOp.at (by decide) (.on 2 true rfl (fun _ _ h=>h)) ?_) ?_
  rotate_left
  refine RhOps.mk (RhOp.at (by decide) (.on 2 true rfl (fun _ _ h=>h)) ?_) ?_
  rotate_left
  refine RhOps.mk (RhOp.moveA (by decide) (.on 2 true rfl (fun _ _ h=>h)) 0 (fun _ w _=>Ext.refl w) rfl rfl (.pointer (some ⟨rb,0,none⟩)) rfl (fun _ _ _=>rfl)) ?_
  refine RhOps.mk (RhOp.at (by decide) (.on 2 true rfl (fun _ _ h=>h)) ?_) ?_
  rotate_left
  refine RhOps.mk (RhOp.at (by decide) (.on 2 true rfl (fun _ _ h=>h)) ?_) ?_
  rotate_left
  refine RhOps.mk (RhOp.at (by decide) (.on 2 true rfl (fun _ _ h=>h)) ?_) ?_
  rotate_left
  refine RhOps.mk (RhOp.at (by decide) (.on 2 true rfl (fun _ _ h=>h)) ?_) ?_
  rotate_left
  refine RhOps.mk (RhOp.at (by decide) (.on 2 true rfl (fun _ _ h=>h)) ?_) ?_
  rotate_left
  refine RhOps.mk (RhOp.at (by decide) (.on 2 true rfl (fun _ _ h=>h)) ?_) ?_
  rotate_left
  refine RhOps.mk (RhOp.at (by decide) (.on 2 true rfl (fun _ _ h=>h)) ?_) ?_
  rotate_left
  refine RhOps.mk (RhOp.moveA (by decide) (.on 2 true rfl (fun _ _ h=>h)) 4 (fun _ w _=>Ext.refl w) rfl rfl (.int .i64 (q:Int)) rfl (fun _ _ _=>rfl)) ?_
  refine RhOps.mk (RhOp.at (by decide) (.on 2 true rfl (fun _ _ h=>h)) ?_) ?_
  rotate_left
  refine RhOps.mk (RhOp.at (by decide) (.on 2 true rfl (fun _ _ h=>h)) ?_) ?_
  rotate_left
  refine RhOps.mk (RhOp.at (by decide) (.on 2 true rfl (fun _ _ h=>h)) ?_) ?_
  rotate_left
  refine RhOps.mk (RhOp.at (by decide) (.on 2 true rfl (fun _ _ h=>h)) ?_) ?_
  rotate_left
  refine RhOps.mk (RhOp.at (by decide) (.free rfl) ?_) ?_
  rotate_left
  exact RhOps.done
  ·intro bb vals ρ w' hC hd hS
   have r14:ρ (.tmp 14)=.int .i64 (q:Int):=(hS.tmp 14).trans (hd.at 0 rfl)
   have rc:=hS.const
   refine (show givesR _ _ _ _ (fun v w''=>Ext w' w''∧v=.bool true) from ?_)
   clear hC hd hS
   go_simp
   exact ⟨Ext.refl _,HQ8.out.1⟩
  ·intro bb vals ρ w' hC hd hS
   have r17:ρ (.tmp 17)=.pointer (some ⟨rb,0,none⟩):=(hS.tmp 17).trans (hd.at 3 rfl)
   refine (show givesR _ _ _ _ (fun v w''=>Ext w' w''∧v=.pointer (some ⟨rb,0,none⟩)) from ?_)
   clear hC hd hS
   go_simp
   exact Ext.refl _
  ·intro bb vals ρ w' hC hd hS
   have r18:ρ (.tmp 18)=.pointer (some ⟨rb,0,none⟩):=(hS.tmp 18).trans (hd.at 4 rfl)
   refine (show givesR _ _ _ _ (fun v w''=>Ext w' w''∧v=.pointer (some ⟨rb,1,none⟩)) from ?_)
   clear hC hd hS
   go_simp
   exact Ext.refl _
  ·intro bb vals ρ w' hC hd hS
   have r19:ρ (.tmp 19)=.pointer (some ⟨rb,1,none⟩):=(hS.tmp 19).trans (hd.at 5 rfl)
   have qc:=hC.cell c1
   refine (show givesR _ _ _ _ (fun v w''=>Ext w' w''∧v=.slice (some ⟨g,0,none⟩) ln cap) from ?_)
   clear hC hd hS
   go_simp
   exact Ext.refl _
  ·intro bb vals ρ w' hC hd hS
   have r21:ρ (.tmp 21)=.pointer (some ⟨rb,0,none⟩):=(hS.tmp 21).trans (hd.at 7 rfl)
   refine (show givesR _ _ _ _ (fun v w''=>Ext w' w''∧v=.pointer (some ⟨rb,0,none⟩)) from ?_)
   clear hC hd hS
   go_simp
   exact Ext.refl _
  ·intro bb vals ρ w' hC hd hS
   have r22:ρ (.tmp 22)=.pointer (some ⟨rb,0,none⟩):=(hS.tmp 22).trans (hd.at 8 rfl)
   refine (show givesR _ _ _ _ (fun v w''=>Ext w' w''∧v=.pointer (some ⟨rb,1,none⟩)) from ?_)
   clear hC hd hS
   go_simp
   exact Ext.refl _
  ·intro bb vals ρ w' hC hd hS
   have r23:ρ (.tmp 23)=.pointer (some ⟨rb,1,none⟩):=(hS.tmp 23).trans (hd.at 9 rfl)
   have qc:=hC.cell c1
   refine (show givesR _ _ _ _ (fun v w''=>Ext w' w''∧v=.slice (some ⟨g,0,none⟩) ln cap) from ?_)
   clear hC hd hS
   go_simp
   exact Ext.refl _
  ·intro bb vals ρ w' hC hd hS
   have r24:ρ (.tmp 24)=.slice (some ⟨g,0,none⟩) ln cap:=(hS.tmp 24).trans (hd.at 10 rfl)
   refine (show givesR _ _ _ _ (fun v w''=>Ext w' w''∧v=.int .i64 (ln:Int)) from ?_)
   clear hC hd hS
   go_simp
   exact Ext.refl _
  ·intro bb vals ρ w' hC hd hS
   have r25:ρ (.tmp 25)=.int .i64 (ln:Int):=(hS.tmp 25).trans (hd.at 11 rfl)
   have rc:=hS.const
   refine (show givesR _ _ _ _ (fun v w''=>Ext w' w''∧v=.int .i64 (j:Int)) from ?_)
   clear hC hd hS
   go_simp
   exact ⟨Ext.refl _,HJ.out.1⟩
  ·intro bb vals ρ w' hC hd hS
   have r20:ρ (.tmp 20)=.slice (some ⟨g,0,none⟩) ln cap:=(hS.tmp 20).trans (hd.at 6 rfl)
   have r26:ρ (.tmp 26)=.int .i64 (j:Int):=(hS.tmp 26).trans (hd.at 12 rfl)
   refine (show givesR _ _ _ _ (fun v w''=>Ext w' w''∧v=.pointer (some ⟨g,j,none⟩)) from ?_)
   have hjl:=HJ.out.2
   clear hC hd hS
   go_simp
   exact Ext.refl _
  ·intro bb vals ρ w' hC hd hS
   have r27:ρ (.tmp 27)=.pointer (some ⟨g,j,none⟩):=(hS.tmp 27).trans (hd.at 13 rfl)
   have qc:=hC.cell cg
   refine (show givesR _ _ _ _ (fun v w''=>Ext w' w''∧v=.int .u8 (b:Int)) from ?_)
   clear hC hd hS
   go_simp
   exact Ext.refl _
  ·intro bb vals ρ w' hC hd hS
   have r29:ρ (.tmp 29)=.int .i64 (q:Int):=(hS.tmp 29).trans (hd.at 15 rfl)
   have rc:=hS.const
   refine (show givesR _ _ _ _ (fun v w''=>Ext w' w''∧v=.int .u8 ((2 ^ q % 256:Nat):Int)) from ?_)
   clear hC hd hS
   go_simp
   exact ⟨Ext.refl _,p_wrap8' q⟩
  ·intro bb vals ρ w' hC hd hS
   have r30:ρ (.tmp 30)=.int .u8 ((2 ^ q % 256:Nat):Int):=(hS.tmp 30).trans (hd.at 16 rfl)
   have rc:=hS.const
   refine (show givesR _ _ _ _ (fun v w''=>Ext w' w''∧v=.int .u8 ((2 ^ q - 1:Nat):Int)) from ?_)
   clear hC hd hS
   go_simp
   exact ⟨Ext.refl _,p_mask HQ8.out.1 HQ8.out.2⟩
  ·intro bb vals ρ w' hC hd hS
   have r28:ρ (.tmp 28)=.int .u8 (b:Int):=(hS.tmp 28).trans (hd.at 14 rfl)
   have r31:ρ (.tmp 31)=.int .u8 ((2 ^ q - 1:Nat):Int):=(hS.tmp 31).trans (hd.at 17 rfl)
   refine (show givesR _ _ _ _ (fun v w''=>Ext w' w''∧v=.int .u8 ((b % 2 ^ q:Nat):Int)) from ?_)
   clear hC hd hS
   go_simp
   exact ⟨Ext.refl _,p_and3 HB8.out HQ8.out.2⟩
  ·intro bb vals ρ w' hC hd hS
   have r32:ρ (.tmp 32)=.int .u8 ((b % 2 ^ q:Nat):Int):=(hS.tmp 32).trans (hd.at 18 rfl)
   have rc:=hS.const
   refine (show givesR _ _ _ _ (fun v w''=>Ext w' w''∧v=.bool z) from ?_)
   clear hC hd hS
   go_simp
   exact ⟨Ext.refl _,HZ.out⟩
  ·intro bb vals ρ w' hC hd hS
   have r16:ρ (.tmp 16)=.bool true:=(hS.tmp 16).trans (hd.at 2 rfl)
   have r33:ρ (.tmp 33)=.bool z:=(hS.tmp 33).trans (hd.at 19 rfl)
   have rc:=hS.const
   refine (show givesR _ _ _ _ (fun v w''=>Ext w' w''∧v=.bool z) from ?_)
   clear hC hd hS
   go_simp
   exact Ext.refl _
 intro vals w' hC hV
 have e20:=hV 20 (by decide)
 simp only [vlist,ex,List.getD_cons_zero,List.getD_cons_succ] at e20
 have HC':=Lib.hid hC;clear hC hV
 simp only [List.drop_succ_cons,List.drop_zero]
 go_simp -- the frame
 cases z
 ·go_wp2
  go_ret
  exact ⟨rfl,((Ext.refl w).drewN nd).trans HC'.out⟩
 ·go_wp2
  go_ret
  exact ⟨rfl,((Ext.refl w).drewN nd).trans HC'.out⟩
theorem rend_c (rb B:Nat) (l:List UInt8) (at':Nat) (err:Int) (w:World) (h:RdIs w B rb l at' err) (hl:l.length≤140737488355328) (ha:at'≤8 * l.length):
  Calls Try.prog 57 #[.pointer (some ⟨rb,0,none⟩)] w fun e w'=>e=.returned (.int .i64 (endI l at' err))∧Ext w w':=by
 by_cases h0:err=0
 ·subst h0
  by_cases h8:at'+8≤8 * l.length
  ·have e:endI l at' 0=6:=by
    unfold endI endB
    rw [if_neg (by simp),if_neg (by rw [decide_eq_true_eq];omega)]
   rw [e]
   exact rend_many rb B l at' w h hl ha h8
  ·by_cases h9:at'=8 * l.length
   ·have e:endI l at' 0=0:=by
     unfold endI endB
     rw [if_neg (by simp),if_pos]
     rw [decide_eq_true_eq]
     refine ⟨by omega,?_⟩
     rw [show 8 * l.length - at'=0 by omega];rfl
    rw [e]
    exact rend_none rb B l at' w h hl ha h9
   ·have e:endI l at' 0=if val (bitsFrom l at' (8 * l.length - at'))=0 then 0 else 6:=by
     unfold endI endB
     rw [if_neg (by simp)]
     by_cases hv:val (bitsFrom l at' (8 * l.length - at'))=0
     ·rw [if_pos hv,if_pos (by rw [decide_eq_true_eq];exact ⟨by omega,hv⟩)]
     ·rw [if_neg hv,if_neg (by rw [decide_eq_true_eq];exact fun h=>hv h.2)]
    rw [e]
    exact rend_some rb B l at' w h hl ha (by omega) (by omega)
 ·have e:endI l at' err=err:=by unfold endI;rw [if_pos h0]
  rw [e]
  exact rend_err rb B l at' err w h hl ha h0
end Go.Proofs.Ytonomiljclemnaa
set_option linter.unusedVariables false
set_option linter.unusedSimpArgs false
namespace Go.Proofs.Ytonomiljclemnaa
open Go.RowKit
end Go.Proofs.Ytonomiljclemnaa
set_option linter.unusedVariables false
set_option linter.unusedSimpArgs false
namespace Go.Proofs.Ytonomiljclemnaa
open Go.RowKit
end Go.Proofs.Ytonomiljclemnaa
set_option linter.unusedVariables false
set_option linter.unusedSimpArgs false
namespace Go.Proofs.Ytonomiljclemnaa
open Go.RowKit
def putL (bl:List Bool) (err:Int) (x:Nat) (n:Int):List Bool:=if err=0∧fitsN x n then bl++bitsOf x n.toNat else bl
def putE (err:Int) (x:Nat) (n:Int):Int:=if err=0∧¬ fitsN x n then 2 else err
theorem wput_c (wb B:Nat) (bl:List Bool) (err:Int) (x:Nat) (n:Int) (w:World) (h:WrIs w B wb bl err) (hx:x<18446744073709551616) (hi:-9223372036854775808≤n∧n≤9223372036854775807) (hl:bl.length≤549755813888):
  Calls Try.prog 48 #[.pointer (some ⟨wb,0,none⟩),.int .u64 x,.int .i64 n] w fun r w'=>r=.returned (.pointer (some ⟨wb,0,none⟩))∧WrIs w' B wb (putL bl err x n) (putE err x n)∧WrMod wb w w':=by
 by_cases h0:err=0
 ·subst h0
  by_cases hf:fitsN x n
  ·have hf':=hf
   obtain ⟨f1,f2,f3⟩:=hf
   obtain ⟨m,rfl⟩:=Int.eq_ofNat_of_zero_le f1
   rw [putL,putE,if_pos ⟨rfl,hf'⟩,if_neg (fun h=>h.2 hf'),Int.toNat_natCast]
   rw [Int.toNat_natCast] at f3
   exact put_ok wb B bl x m w h (by omega) f3 (by omega)
  ·rw [putL,putE,if_neg (fun h=>hf h.2),if_pos ⟨rfl,hf⟩]
   exact put_bad wb B bl x n w h hx hf hi
 ·rw [putL,putE,if_neg (fun h=>h0 h.1),if_neg (fun h=>h0 h.1)]
  refine (put_err wb B bl err x n w h h0).mono ?_
  rintro r w' ⟨h1,rfl⟩
  exact ⟨h1,h,WrMod.of_ext (Ext.refl w) h.lt⟩
end Go.Proofs.Ytonomiljclemnaa
set_option linter.unusedVariables false
set_option linter.unusedSimpArgs false
namespace Go.Proofs.Ytonomiljclemnaa
open Go.RowKit
def bb (b:Bool):UInt8:=if b then 1 else 0
def bbs (l:List Bool):List UInt8:=l.map bb
theorem bbs_length (l:List Bool):(bbs l).length=l.length:=by simp [bbs]
theorem bbs_append (l m:List Bool):bbs (l++m)=bbs l++bbs m:=List.map_append
set_option maxHeartbeats 1000000 in
theorem rfits_c (x:Nat) (n:Int) (w:World) (hx:x<18446744073709551616) (hi:-9223372036854775808≤n∧n≤9223372036854775807):
  Calls Try.prog 65 #[.int .u64 x,.int .i64 n] w fun e w'=>e=.returned (.bool (decide (fitsN x n)))∧w=w':=by
 by_cases h1:n<0∨64<n
 ·have e:¬ fitsN x n:=fun h=>by obtain ⟨a,b,_⟩:=h;omega
  rw [decide_eq_false e]
  clear e
  rcases h1 with h1|h1
  all_goals
   go_enter Try.func65,Try.ntmps65
   go_wp2
   go_ret
   exact ⟨rfl,rfl⟩
 ·obtain ⟨m,rfl⟩:=Int.eq_ofNat_of_zero_le (show 0≤n by omega)
  by_cases h2:m=64
  ·subst h2
   have e:fitsN x ((64:Nat):Int):=⟨by decide,by decide,hx⟩
   rw [decide_eq_true e]
   clear e h1 hi
   go_enter Try.func65,Try.ntmps65
   go_wp2
   go_ret
   exact ⟨rfl,rfl⟩
  ·have e:decide (fitsN x (m:Int))=decide ((x:Int)<2 ^ m):=by
    congr 1
    apply propext
    have e1:(2 ^ m:Int)=((2 ^ m:Nat):Int):=by push_cast;rfl
    rw [e1]
    unfold fitsN
    rw [Int.toNat_natCast]
    omega
   rw [e]
   have hm0:((m:Int)<0)=False:=eq_false (by omega)
   have hm1:((64:Int)<(m:Int))=False:=eq_false (by omega)
   have hm2:((m:Int)==64)=false:=by simp;omega
   have hpow:IntKind.u64.wrap (2 ^ m)=(2 ^ m:Int):=by
    have h3:2 ^ m≤2 ^ 63:=Nat.pow_le_pow_right (by decide) (by omega)
    have e1:(2 ^ m:Int)=((2 ^ m:Nat):Int):=by push_cast;rfl
    rw [e1,IntKind.wrap_u64]
    exact Int.emod_eq_of_lt (Int.natCast_nonneg _) (by
     have h4:2 ^ m<18446744073709551616:=Nat.lt_of_le_of_lt h3 (by decide)
     exact Int.ofNat_lt.2 h4)
   have hcv:IntKind.u64.wrap (m:Int)=(m:Int):=by rw [IntKind.wrap_u64];omega
   have hm64:m≤64:=by omega
   clear h1 h2 e hi
   go_enter Try.func65,Try.ntmps65
   go_wp2
   go_ret
   exact ⟨rfl,rfl⟩
theorem bit_val (x j:Nat) (hx:x<18446744073709551616):bits .and .u64 ((x:Int) / 2 ^ j) 1 % 256=((bb (x.testBit j)).toNat:Int):=by
 have h1:x / 2 ^ j<18446744073709551616:=Nat.lt_of_le_of_lt (Nat.div_le_self _ _) hx
 have h2:=u64_and_nat (x / 2 ^ j) 1 h1 (by decide)
 rw [Nat.and_one_is_mod] at h2
 have e:(x:Int) / 2 ^ j=((x / 2 ^ j:Nat):Int):=by push_cast;rfl
 rw [e,show (1:Int)=((1:Nat):Int) from rfl,h2,Nat.testBit_eq_decide_div_mod_eq]
 rcases (show x / 2 ^ j % 2=0∨x / 2 ^ j % 2=1 by omega) with h|h<;>rw [h]<;>rfl
set_option maxRecDepth 100000 in
set_option maxHeartbeats 2000000 in
theorem rbits_c (x n:Nat) (w:World) (hn:n≤64) (hx:x<18446744073709551616):
  Calls Try.prog 66 #[.int .u64 x,.int .i64 n] w fun e w'=>∃ ao cap,e=.returned (.slice ao n cap)∧Ext w w'∧w'.ownsRow w.heap.size 5 1 (.slice ao n cap) n ((bbs (bitsOf x n)).map bv):=by
 have HXB:=Lib.hid hx
 clear hx
 go_enter Try.func66,Try.ntmps66
 go_wp2_with fail
 go_loopw [5,6] (fun v i wr=>∃ (k:Nat) (ao:Option Addr) (cap:Nat),k≤n∧i=.int .i64 ((k:Int) - 1)∧v=.slice ao (n - k) cap∧Ext w wr∧wr.ownsRow w.heap.size 5 1 (.slice ao (n - k) cap) (n - k) ((bbs ((bitsOf x n).take (n - k))).map bv)) (fun _ i _=>(intOf i+1).toNat)
 case atStart=>exact ⟨n,none,0,Nat.le_refl _,rfl,by rw [Nat.sub_self],Ext.refl w,by rw [Nat.sub_self];exact World.ownsRow_nil _ _ _ _⟩
 case round=>
  obtain ⟨k,ao,cap,hk,rfl,rfl,hx,ho⟩:=hrel
  have HX:=Lib.hid hx
  have HO:=Lib.hid ho
  clear hx ho
  by_cases h0:k=0
  ·subst h0
   go_wp2_with fail
   rw [Nat.sub_zero] at HO ⊢
   go_ret
   exact ⟨ao,cap,rfl,HX.out,by have:=HO.out;rwa [List.take_of_length_le (by rw [bitsOf_length];exact Nat.le_refl _)] at this⟩
  ·obtain ⟨j,rfl⟩:∃ j,k=j+1:=⟨k - 1,by omega⟩
   have hV:=bit_val x j HXB.out
   obtain ⟨q,hq⟩:∃ q,q=n - (j+1):=⟨_,rfl⟩
   rw [← hq] at HO ⊢
   have HQ:=Lib.hid hq
   have HSZ:Hid (w.heap.size≤wr.heap.size∧q≤64):=Lib.hid ⟨HX.out.size,by omega⟩
   clear hq
   go_wp2_with (first|(at_builtin;go_loud (refine wpList_app rfl (.tmp 17) (.tmp 24) 31 rfl etBytes w.heap.size rfl (owns_ext HO.out ((Ext.refl wr).alloc _)) rfl (Rs.of_owns (owns_lit (n:=1) (size:=1) (cs:=#[bv (bb (x.testBit j))]) rfl (Nat.le_refl _) (by decide))) (oneCell_bv [bb (x.testBit j)]) (by have:=HSZ.out;omega) (by have:=HSZ.out;omega) (by have:=HSZ.out;simp;omega) ?_);intro v' w1 hown hgr _)|fail)
   have hx1:Ext w w1:=(HX.out.alloc _).grown hgr fun i hi=>(owns_block HO.out hi).1
   obtain ⟨no,ncap,rfl⟩:=owns_shape hown
   have HOWN:=Lib.hid hown
   have HX1:=Lib.hid hx1
   clear hown hgr hx1 hV
   go_roundw
   case rel=>
    have hq:=HQ.out
    refine ⟨j,no,ncap,by omega,by first|rfl|(refine congrArg (Value.int .i64) ?_;omega),by rw [show n - j=q+1 by omega],HX1.out,?_⟩
    rw [show n - j=q+1 by omega]
    have e:bbs ((bitsOf x n).take (q+1))=bbs ((bitsOf x n).take q)++[bb (x.testBit j)]:=by
     rw [List.take_add_one,bitsOf_getElem? x n q (by omega),bbs_append,show n - 1 - q=j by omega]
     rfl
    rw [e,List.map_append]
    exact HOWN.out
   case measure=>simp [intOf]
end Go.Proofs.Ytonomiljclemnaa
