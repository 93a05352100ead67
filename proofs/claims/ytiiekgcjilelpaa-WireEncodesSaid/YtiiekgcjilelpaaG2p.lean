/- G2. -/
import Derived.Test.YtiiekgcjilelpaaG1p
import Derived.Test.YtiiekgcjilelpaaOpenp
import Derived.Test.YtiiekgcjilelpaaG0p
open List renaming take_of_length_le → zaq, map_append → zba
open Nat renaming le_refl → zbm, zero_le → zbn
set_option maxRecDepth 100000
set_option linter.unusedSimpArgs false
set_option linter.unusedVariables false
namespace Go.Proofs.Ytiiekgcjilelpaa
open Go.RowKit
set_option maxHeartbeats 1000000 in
theorem rget_err (rb B:Nat) (l:List UInt8) (at':Nat) (err n:Int) (w:World) (h:RdIs w B rb l at' err) (h0:err≠0):
  Calls Try.prog 127 #[.pointer (some ⟨rb,0,none⟩),.int .i64 n] w fun e w'=>e=.returned (.int .u64 0)∧w=w':=by
 have H:=Lib.hid h;clear h
 have hb:(err != 0)=true:=by simpa using h0
 clear h0
 go_enter Try.func127,Try.ntmps127
 go_wp2_with fail
 refine (ygy rb B l at' err w H.out).mono ?_
 rintro e w1 ⟨rfl,rfl⟩
 go_wp2
 go_ret
 exact ⟨rfl,rfl⟩
set_option maxHeartbeats 1000000 in
theorem rget_arg (rb B:Nat) (l:List UInt8) (at':Nat) (n:Int) (w:World) (h:RdIs w B rb l at' 0) (hn:n<0∨64<n):
  Calls Try.prog 127 #[.pointer (some ⟨rb,0,none⟩),.int .i64 n] w fun e w'=>e=.returned (.int .u64 0)∧RdIs w' B rb l at' 2∧Mod (fun k=>k=rb) w w':=by
 have c3:=h.c3
 have f3:=h.fz 3
 have H:=Lib.hid h;clear h
 rcases hn with hn|hn
 all_goals
  go_enter Try.func127,Try.ntmps127
  go_wp2_with fail
  refine (ygy rb B l at' 0 w H.out).mono ?_
  rintro e w1 ⟨rfl,rfl⟩
  go_wp2
  go_ret
  exact ⟨rfl,H.out.setErr 2,Mod.setCell (F:=fun k=>k=rb) (p:=⟨rb,3,none⟩) (Mod.refl _ w) (fun _=>rfl) _⟩
set_option maxHeartbeats 1000000 in
theorem yvm (rb B:Nat) (l:List UInt8) (at':Nat) (n:Int) (w:World) (h:RdIs w B rb l at' 0) (hn:0≤n) (hn':n≤64) (hf:8 * (l.length:Int)<(at':Int)+n) (hl:l.length≤140737488355328) (ha:at'≤8 * l.length):
  Calls Try.prog 127 #[.pointer (some ⟨rb,0,none⟩),.int .i64 n] w fun e w'=>e=.returned (.int .u64 0)∧RdIs w' B rb l at' 3∧Mod (fun k=>k=rb) w w':=by
 have H:=Lib.hid h;clear h
 have HL:=Lib.hid hl
 have HA:=Lib.hid ha
 have hleft:ykl l at' 0<n:=by rw [yde];omega
 generalize hlf:ykl l at' 0=lf at hleft
 have HLF:=Lib.hid hlf
 clear hlf hf hl ha
 go_enter Try.func127,Try.ntmps127
 go_wp2_with fail
 refine (ygy rb B l at' 0 w H.out).mono ?_
 rintro e w1 ⟨rfl,rfl⟩
 go_wp2_with fail
 refine (yj1 rb B l at' 0 w H.out HL.out HA.out).mono ?_
 rintro e w1 ⟨rfl,nd,rfl⟩
 rw [HLF.out]
 have H':=Lib.hid (H.out.ext ((Ext.refl w).drewN nd))
 have c3:=H'.out.c3
 have f3:=H'.out.fz 3
 go_wp2
 go_ret
 exact ⟨rfl,H'.out.setErr 3,Mod.setCell (F:=fun k=>k=rb) (p:=⟨rb,3,none⟩) ((Ext.refl w).drewN nd).mod (fun _=>rfl) _⟩
def getV (l:List UInt8) (at':Nat) (err n:Int):Nat:=if err=0∧0≤n∧n≤64∧(at':Int)+n≤8 * (l.length:Int) then val (ya5 l at' n.toNat) else 0
def yp1 (l:List UInt8) (at':Nat) (err n:Int):Nat:=if err=0∧0≤n∧n≤64∧(at':Int)+n≤8 * (l.length:Int) then at'+n.toNat else at'
def getE (l:List UInt8) (at':Nat) (err n:Int):Int:=if err≠0 then err else if n<0∨64<n then 2 else if 8 * (l.length:Int)<(at':Int)+n then 3 else 0
theorem rget_c (rb B:Nat) (l:List UInt8) (at':Nat) (err n:Int) (w:World) (h:RdIs w B rb l at' err) (hl:l.length≤140737488355328) (ha:at'≤8 * l.length):
  Calls Try.prog 127 #[.pointer (some ⟨rb,0,none⟩),.int .i64 n] w fun e w'=>e=.returned (.int .u64 (getV l at' err n:Int))∧RdIs w' B rb l (yp1 l at' err n) (getE l at' err n)∧Mod (fun k=>k=rb) w w':=by
 by_cases h0:err=0
 ·subst h0
  by_cases h1:n<0∨64<n
  ·have e:¬ ((0:Int)=0∧0≤n∧n≤64∧(at':Int)+n≤8 * (l.length:Int)):=by omega
   rw [getV,yp1,getE,if_neg e,if_neg e,if_neg (by simp),if_pos h1]
   exact rget_arg rb B l at' n w h h1
  ·by_cases h2:8 * (l.length:Int)<(at':Int)+n
   ·have e:¬ ((0:Int)=0∧0≤n∧n≤64∧(at':Int)+n≤8 * (l.length:Int)):=by omega
    rw [getV,yp1,getE,if_neg e,if_neg e,if_neg (by simp),if_neg h1,if_pos h2]
    exact yvm rb B l at' n w h (by omega) (by omega) h2 hl ha
   ·have e:((0:Int)=0∧0≤n∧n≤64∧(at':Int)+n≤8 * (l.length:Int)):=by omega
    rw [getV,yp1,getE,if_pos e,if_pos e,if_neg (by simp),if_neg h1,if_neg h2]
    obtain ⟨m,rfl⟩:=Int.eq_ofNat_of_zero_le (show 0≤n by omega)
    rw [Int.toNat_natCast]
    exact rget_ok rb B l at' m w h (by omega) (by omega) hl
 ·have e:¬ (err=0∧0≤n∧n≤64∧(at':Int)+n≤8 * (l.length:Int)):=by omega
  rw [getV,yp1,getE,if_neg e,if_neg e,if_pos h0]
  refine (rget_err rb B l at' err n w h h0).mono ?_
  rintro e w' ⟨h1,rfl⟩
  exact ⟨h1,h,Mod.refl _ w⟩
theorem WrIs.fge {w:World} {B wb:Nat} {l:List Bool} {err:Int} (h:WrIs w B wb l err):∀ k,WrF w wb k→B≤k:=by
 obtain ⟨ao,cap,h1,h2,h3⟩:=h
 rintro k (rfl|⟨v,q1,q2⟩)
 ·exact h2
 ·rw [yac h1] at q1
  simp only [List.size_toArray,List.getElem?_toArray,List.getElem?_cons_succ,List.getElem?_cons_zero,Option.some.injEq] at q1
  subst q1
  exact (yar h3 q2).1
theorem p_and3 {b q:Nat} (hb:b<256) (h8:q≤8):bits .and .u8 (b:Int) ((2 ^ q - 1:Nat):Int)=((b:Int) % 2 ^ q):=by
 have h1:=u8_and_nat b (2 ^ q - 1) hb (by have:=p_pow8 h8;have:=Nat.two_pow_pos q;omega)
 rw [Nat.and_two_pow_sub_one_eq_mod] at h1
 rw [h1]
 simp
def endB (l:List UInt8) (at':Nat):Bool:=decide (8 * l.length<at'+8∧val (ya5 l at' (8 * l.length - at'))=0)
def endI (l:List UInt8) (at':Nat) (err:Int):Int:=if err≠0 then err else if endB l at'=true then 0 else 6
set_option maxHeartbeats 1000000 in
theorem rend_err (rb B:Nat) (l:List UInt8) (at':Nat) (err:Int) (w:World) (h:RdIs w B rb l at' err) (hl:l.length≤140737488355328) (ha:at'≤8 * l.length) (h0:err≠0):
  Calls Try.prog 130 #[.pointer (some ⟨rb,0,none⟩)] w fun e w'=>e=.returned (.int .i64 err)∧Ext w w':=by
 have H:=Lib.hid h;clear h
 have hb:(err != 0)=true:=by simpa using h0
 clear h0 hl ha
 go_enter Try.func130,Try.ntmps130
 go_wp2_with fail
 refine (ygy rb B l at' err w H.out).mono ?_
 rintro e w1 ⟨rfl,rfl⟩
 go_wp2
 go_ret
 exact ⟨rfl,Ext.refl w⟩
set_option maxHeartbeats 1000000 in
theorem rend_many (rb B:Nat) (l:List UInt8) (at':Nat) (w:World) (h:RdIs w B rb l at' 0) (hl:l.length≤140737488355328) (ha:at'≤8 * l.length) (h8:at'+8≤8 * l.length):
  Calls Try.prog 130 #[.pointer (some ⟨rb,0,none⟩)] w fun e w'=>e=.returned (.int .i64 6)∧Ext w w':=by
 have H:=Lib.hid h;clear h
 obtain ⟨q,hq⟩:∃ q,q=8 * l.length - at':=⟨_,rfl⟩
 have HLF:Hid (ykl l at' 0=(q:Int)):=Lib.hid (by rw [yde];omega)
 have HL:=Lib.hid hl
 have HA:=Lib.hid ha
 have hq8:8≤q:=by omega
 clear hl ha hq h8
 go_enter Try.func130,Try.ntmps130
 go_wp2_with fail
 refine (ygy rb B l at' 0 w H.out).mono ?_
 rintro e w1 ⟨rfl,rfl⟩
 go_wp2_with fail
 refine (yj1 rb B l at' 0 w H.out HL.out HA.out).mono ?_
 rintro e w1 ⟨rfl,nd,rfl⟩
 rw [HLF.out]
 go_wp2
 go_ret
 exact ⟨rfl,(Ext.refl w).drewN nd⟩
set_option maxHeartbeats 1000000 in
theorem rend_none (rb B:Nat) (l:List UInt8) (at':Nat) (w:World) (h:RdIs w B rb l at' 0) (hl:l.length≤140737488355328) (ha:at'≤8 * l.length) (h8:at'=8 * l.length):
  Calls Try.prog 130 #[.pointer (some ⟨rb,0,none⟩)] w fun e w'=>e=.returned (.int .i64 0)∧Ext w w':=by
 have H:=Lib.hid h;clear h
 obtain ⟨q,hq⟩:∃ q,q=8 * l.length - at':=⟨_,rfl⟩
 have HLF:Hid (ykl l at' 0=(q:Int)):=Lib.hid (by rw [yde];omega)
 have HL:=Lib.hid hl
 have HA:=Lib.hid ha
 have HQ0:Hid (q=0):=Lib.hid (by omega)
 have hlt:((0:Int)<(q:Int))=False:=eq_false (by omega)
 have hq8':((8:Int)≤(q:Int))=False:=eq_false (by omega)
 clear hl ha hq h8
 go_enter Try.func130,Try.ntmps130
 go_wp2_with fail
 refine (ygy rb B l at' 0 w H.out).mono ?_
 rintro e w1 ⟨rfl,rfl⟩
 go_wp2_with fail
 refine (yj1 rb B l at' 0 w H.out HL.out HA.out).mono ?_
 rintro e w1 ⟨rfl,nd,rfl⟩
 rw [HLF.out]
 go_wp2_with fail
 refine ycl 21 _
  [ex (.int .i64 (q:Int)),
   ex (.bool false),
   ex (.bool false),
   ex undef,
   ex undef,
   ex undef,
   ex undef,
   ex undef,
   ex undef,
   ex undef,
   ex undef,
   ex undef,
   ex undef,
   ex undef,
   ex undef,
   ex undef,
   ex undef,
   ex undef,
   ex undef,
   ex undef,
   ex (.bool false)]
  (by kernel_rfl) (by kernel_rfl) (by kernel_rfl) rfl ⟨yaq,yaq,yaq,yaq,yaq,yaq,yaq,yaq,yaq,yaq,yaq,yaq,yaq,yaq,yaq,yaq,yaq,yaq,yaq,yaq,yaq,trivial⟩ ?_ ?_
 ·simp only [List.take_succ_cons,List.take_zero]
  go_tidy
  refine RhOps.mk (RhOp.moveA (by decide) (.free rfl) 4 (fun _ w _=>Ext.refl w) rfl rfl (.int .i64 (q:Int)) rfl (fun _ _ _=>rfl)) ?_
  refine RhOps.mk (RhOp.at (by decide) (.free rfl) ?_) ?_
  rotate_left
  refine RhOps.mk (RhOp.move (by decide) (.free rfl) 15 1 (fun _ w _=>Ext.refl w) rfl rfl rfl (fun _ _ h=>h)) ?_
  refine RhOps.mk (RhOp.off (by decide) (.by 2 true rfl (fun _ _ h=>h)) (fun _ _ _=>rfl)) ?_
  refine RhOps.mk (RhOp.off (by decide) (.by 2 true rfl (fun _ _ h=>h)) (fun _ _ _=>rfl)) ?_
  refine RhOps.mk (RhOp.off (by decide) (.by 2 true rfl (fun _ _ h=>h)) (fun _ _ _=>rfl)) ?_
  refine RhOps.mk (RhOp.off (by decide) (.by 2 true rfl (fun _ _ h=>h)) (fun _ _ _=>rfl)) ?_
  refine RhOps.mk (RhOp.off (by decide) (.by 2 true rfl (fun _ _ h=>h)) (fun _ _ _=>rfl)) ?_
  refine RhOps.mk (RhOp.off (by decide) (.by 2 true rfl (fun _ _ h=>h)) (fun _ _ _=>rfl)) ?_
  refine RhOps.mk (RhOp.off (by decide) (.by 2 true rfl (fun _ _ h=>h)) (fun _ _ _=>rfl)) ?_
  refine RhOps.mk (RhOp.off (by decide) (.by 2 true rfl (fun _ _ h=>h)) (fun _ _ _=>rfl)) ?_
  refine RhOps.mk (RhOp.off (by decide) (.by 2 true rfl (fun _ _ h=>h)) (fun _ _ _=>rfl)) ?_
  refine RhOps.mk (RhOp.off (by decide) (.by 2 true rfl (fun _ _ h=>h)) (fun _ _ _=>rfl)) ?_
  refine RhOps.mk (RhOp.off (by decide) (.by 2 true rfl (fun _ _ h=>h)) (fun _ _ _=>rfl)) ?_
  refine RhOps.mk (RhOp.off (by decide) (.by 2 true rfl (fun _ _ h=>h)) (fun _ _ _=>rfl)) ?_
  refine RhOps.mk (RhOp.off (by decide) (.by 2 true rfl (fun _ _ h=>h)) (fun _ _ _=>rfl)) ?_
  refine RhOps.mk (RhOp.off (by decide) (.by 2 true rfl (fun _ _ h=>h)) (fun _ _ _=>rfl)) ?_
  refine RhOps.mk (RhOp.off (by decide) (.by 2 true rfl (fun _ _ h=>h)) (fun _ _ _=>rfl)) ?_
  refine RhOps.mk (RhOp.off (by decide) (.by 2 true rfl (fun _ _ h=>h)) (fun _ _ _=>rfl)) ?_
  refine RhOps.mk (RhOp.off (by decide) (.by 2 true rfl (fun _ _ h=>h)) (fun _ _ _=>rfl)) ?_
  refine RhOps.mk (RhOp.at (by decide) (.free rfl) ?_) ?_
  rotate_left
  exact RhOps.done
  ·intro bb vals ρ w' hC hd hS
   have r14:ρ (.tmp 14)=.int .i64 (q:Int):=(hS.tmp 14).trans (hd.at 0 rfl)
   have rc:=hS.const
   refine (show yap _ _ _ _ (fun v w''=>Ext w' w''∧v=.bool false) from ?_)
   clear hC hd hS
   go_simp
   exact ⟨Ext.refl _,HQ0.out⟩
  ·intro bb vals ρ w' hC hd hS
   have r16:ρ (.tmp 16)=.bool false:=(hS.tmp 16).trans (hd.at 2 rfl)
   have r33:ρ (.tmp 33)=undef:=(hS.tmp 33).trans (hd.at 19 rfl)
   have rc:=hS.const
   refine (show yap _ _ _ _ (fun v w''=>Ext w' w''∧v=.bool false) from ?_)
   clear hC hd hS
   go_simp
   exact Ext.refl _
 intro vals w' hC hV
 have e20:=hV 20 (by decide)
 simp only [vlist,ex,List.getD_cons_zero,List.getD_cons_succ] at e20
 have HC':=Lib.hid hC;clear hC hV
 simp only [List.drop_succ_cons,List.drop_zero]
 go_simp -- the frame
 go_wp2
 go_ret
 exact ⟨rfl,((Ext.refl w).drewN nd).trans HC'.out⟩
set_option maxHeartbeats 1000000 in
theorem rend_some (rb B:Nat) (l:List UInt8) (at':Nat) (w:World) (h:RdIs w B rb l at' 0) (hl:l.length≤140737488355328) (ha:at'≤8 * l.length) (h8:8 * l.length<at'+8) (h9:at'<8 * l.length):
  Calls Try.prog 130 #[.pointer (some ⟨rb,0,none⟩)] w fun e w'=>e=.returned (.int .i64 (if val (ya5 l at' (8 * l.length - at'))=0 then 0 else 6))∧Ext w w':=by
 have H:=Lib.hid h;clear h
 obtain ⟨q,hq⟩:∃ q,q=8 * l.length - at':=⟨_,rfl⟩
 have HLF:Hid (ykl l at' 0=(q:Int)):=Lib.hid (by rw [yde];omega)
 have HL:=Lib.hid hl
 have HA:=Lib.hid ha
 have hql:0<l.length:=by omega
 obtain ⟨ao,cap,hb1,hb2,hb3,hb4⟩:=H.out
 obtain ⟨g,cap',he,hg1,hg2⟩:=World.ownsRow.form hb3 hql
 simp only [Value.slice.injEq] at he
 obtain ⟨rfl,_,rfl⟩:=he
 obtain ⟨ln,hln⟩:∃ ln,ln=l.length:=⟨_,rfl⟩
 obtain ⟨j,hj⟩:∃ j,j=at' / 8:=⟨_,rfl⟩
 obtain ⟨b,hb⟩:∃ b,b=(l.getD j 0).toNat:=⟨_,rfl⟩
 obtain ⟨z,hz⟩:∃ z:Bool,z=((b:Int) % 2 ^ q != 0):=⟨_,rfl⟩
 have hjl:j<l.length:=by omega
 have hbb:b<256:=by rw [hb];exact UInt8.toNat_lt _
 have e:(if val (ya5 l at' (8 * l.length - at'))=0 then (0:Int) else 6)=if z=true then 6 else 0:=by
  rw [← hq,yg0 (by omega) (by omega),←hj,←hb,show 8 - at' % 8 - q=0 by omega,Nat.pow_zero,Nat.div_one]
  have hz':z=true↔b % 2 ^ q≠0:=by
   rw [hz,bne_iff_ne]
   have:((b:Int) % 2 ^ q)=((b % 2 ^ q:Nat):Int):=by push_cast;rfl
   rw [this];omega
  by_cases hc:b % 2 ^ q=0
  ·rw [if_pos hc,if_neg (by rw [hz'];simp [hc])]
  ·rw [if_neg hc,if_pos (hz'.2 hc)]
 rw [e]
 have HJ:Hid (IntKind.i64.wrap ((ln:Int) - 1)=(j:Int)∧(j:Int)<(ln:Int)):=Lib.hid ⟨by rw [IntKind.wrap_i64];omega,by omega⟩
 have HQ8:Hid (0<q∧q≤8):=Lib.hid (by omega)
 have hq8'':q≤8:=HQ8.out.2
 have HB8:=Lib.hid hbb
 have HZ:Hid (((b:Int) % 2 ^ q != 0)=z):=Lib.hid hz.symm
 have hlt:((0:Int)<(q:Int))=True:=eq_true (by omega)
 have hq8':((8:Int)≤(q:Int))=False:=eq_false (by omega)
 have c1:w.cell? ⟨rb,1,none⟩=some (.slice (some ⟨g,0,none⟩) ln cap):=by rw [yac hb1,hln];rfl
 have cg:w.cell? ⟨g,j,none⟩=some (.int .u8 (b:Int)):=by
  rw [World.ownsRow.cellAt hb3 _ (by omega),hb]
  simp [bv,List.getD,List.getElem?_eq_getElem hjl]
 clear hl ha hq e hb1 hb2 hb3 hb4 hg1 hg2 hln hj hb hz hjl hbb hql h8 h9
 go_enter Try.func130,Try.ntmps130
 go_wp2_with fail
 refine (ygy rb B l at' 0 w H.out).mono ?_
 rintro e w1 ⟨rfl,rfl⟩
 go_wp2_with fail
 refine (yj1 rb B l at' 0 w H.out HL.out HA.out).mono ?_
 rintro e w1 ⟨rfl,nd,rfl⟩
 rw [HLF.out]
 go_wp2_with fail
 refine ycl 21 _
  [ex (.int .i64 (q:Int)),
   ex (.bool true),
   ex (.bool true),
   ex (.pointer (some ⟨rb,0,none⟩)),
   ex (.pointer (some ⟨rb,0,none⟩)),
   ex (.pointer (some ⟨rb,1,none⟩)),
   ex (.slice (some ⟨g,0,none⟩) ln cap),
   ex (.pointer (some ⟨rb,0,none⟩)),
   ex (.pointer (some ⟨rb,0,none⟩)),
   ex (.pointer (some ⟨rb,1,none⟩)),
   ex (.slice (some ⟨g,0,none⟩) ln cap),
   ex (.int .i64 (ln:Int)),
   ex (.int .i64 (j:Int)),
   ex (.pointer (some ⟨g,j,none⟩)),
   ex (.int .u8 (b:Int)),
   ex (.int .i64 (q:Int)),
   ex (.int .u8 ((2 ^ q % 256:Nat):Int)),
   ex (.int .u8 ((2 ^ q - 1:Nat):Int)),
   ex (.int .u8 ((b % 2 ^ q:Nat):Int)),
   ex (.bool z),
   ex (.bool z)]
  (by kernel_rfl) (by kernel_rfl) (by kernel_rfl) rfl ⟨yaq,yaq,yaq,yaq,yaq,yaq,yaq,yaq,yaq,yaq,yaq,yaq,yaq,yaq,yaq,yaq,yaq,yaq,yaq,yaq,yaq,trivial⟩ ?_ ?_
 ·simp only [List.take_succ_cons,List.take_zero]
  go_tidy
  refine RhOps.mk (RhOp.moveA (by decide) (.free rfl) 4 (fun _ w _=>Ext.refl w) rfl rfl (.int .i64 (q:Int)) rfl (fun _ _ _=>rfl)) ?_
  refine RhOps.mk (RhOp.at (by decide) (.free rfl) ?_) ?_
  rotate_left
  refine RhOps.mk (RhOp.move (by decide) (.free rfl) 15 1 (fun _ w _=>Ext.refl w) rfl rfl rfl (fun _ _ h=>h)) ?_
  refine RhOps.mk (RhOp.moveA (by decide) (.on 2 true rfl (fun _ _ h=>h)) 0 (fun _ w _=>Ext.refl w) rfl rfl (.pointer (some ⟨rb,0,none⟩)) rfl (fun _ _ _=>rfl)) ?_
  refine RhOps.mk (RhOp.at (by decide) (.on 2 true rfl (fun _ _ h=>h)) ?_) ?_
  rotate_left
  refine RhOps.mk (RhOp.at (by decide) (.on 2 true rfl (fun _ _ h=>h)) ?_) ?_
  rotate_left
  refine RhOps.mk (RhOp.at (by decide) (.on 2 true rfl (fun _ _ h=>h)) ?_) ?_
  rotate_left
  refine RhOps.mk (RhOp.moveA (by decide) (.on 2 true rfl (fun _ _ h=>h)) 0 (fun _ w _=>Ext.refl w) rfl rfl (.pointer (some ⟨rb,0,none⟩)) rfl (fun _ _ _=>rfl)) ?_
  refine RhOps.mk (RhOp.at (by decide) (.on 2 true rfl (fun _ _ h=>h)) ?_) ?_
  rotate_left
  refine RhOps.mk (RhOp.at (by decide) (.on 2 true rfl (fun _ _ h=>h)) ?_) ?_
  rotate_left
  refine RhOps.mk (RhOp.at (by decide) (.on 2 true rfl (fun _ _ h=>h)) ?_) ?_
  rotate_left
  refine RhOps.mk (RhOp.at (by decide) (.on 2 true rfl (fun _ _ h=>h)) ?_) ?_
  rotate_left
  refine RhOps.mk (RhOp.at (by decide) (.on 2 true rfl (fun _ _ h=>h)) ?_) ?_
  rotate_left
  refine RhOps.mk (RhOp.at (by decide) (.on 2 true rfl (fun _ _ h=>h)) ?_) ?_
  rotate_left
  refine RhOps.mk (RhOp.at (by decide) (.on 2 true rfl (fun _ _ h=>h)) ?_) ?_
  rotate_left
  refine RhOps.mk (RhOp.moveA (by decide) (.on 2 true rfl (fun _ _ h=>h)) 4 (fun _ w _=>Ext.refl w) rfl rfl (.int .i64 (q:Int)) rfl (fun _ _ _=>rfl)) ?_
  refine RhOps.mk (RhOp.at (by decide) (.on 2 true rfl (fun _ _ h=>h)) ?_) ?_
  rotate_left
  refine RhOps.mk (RhOp.at (by decide) (.on 2 true rfl (fun _ _ h=>h)) ?_) ?_
  rotate_left
  refine RhOps.mk (RhOp.at (by decide) (.on 2 true rfl (fun _ _ h=>h)) ?_) ?_
  rotate_left
  refine RhOps.mk (RhOp.at (by decide) (.on 2 true rfl (fun _ _ h=>h)) ?_) ?_
  rotate_left
  refine RhOps.mk (RhOp.at (by decide) (.free rfl) ?_) ?_
  rotate_left
  exact RhOps.done
  ·intro bb vals ρ w' hC hd hS
   have r14:ρ (.tmp 14)=.int .i64 (q:Int):=(hS.tmp 14).trans (hd.at 0 rfl)
   have rc:=hS.const
   refine (show yap _ _ _ _ (fun v w''=>Ext w' w''∧v=.bool true) from ?_)
   clear hC hd hS
   go_simp
   exact ⟨Ext.refl _,HQ8.out.1⟩
  ·intro bb vals ρ w' hC hd hS
   have r17:ρ (.tmp 17)=.pointer (some ⟨rb,0,none⟩):=(hS.tmp 17).trans (hd.at 3 rfl)
   refine (show yap _ _ _ _ (fun v w''=>Ext w' w''∧v=.pointer (some ⟨rb,0,none⟩)) from ?_)
   clear hC hd hS
   go_simp
   exact Ext.refl _
  ·intro bb vals ρ w' hC hd hS
   have r18:ρ (.tmp 18)=.pointer (some ⟨rb,0,none⟩):=(hS.tmp 18).trans (hd.at 4 rfl)
   refine (show yap _ _ _ _ (fun v w''=>Ext w' w''∧v=.pointer (some ⟨rb,1,none⟩)) from ?_)
   clear hC hd hS
   go_simp
   exact Ext.refl _
  ·intro bb vals ρ w' hC hd hS
   have r19:ρ (.tmp 19)=.pointer (some ⟨rb,1,none⟩):=(hS.tmp 19).trans (hd.at 5 rfl)
   have qc:=hC.cell c1
   refine (show yap _ _ _ _ (fun v w''=>Ext w' w''∧v=.slice (some ⟨g,0,none⟩) ln cap) from ?_)
   clear hC hd hS
   go_simp
   exact Ext.refl _
  ·intro bb vals ρ w' hC hd hS
   have r21:ρ (.tmp 21)=.pointer (some ⟨rb,0,none⟩):=(hS.tmp 21).trans (hd.at 7 rfl)
   refine (show yap _ _ _ _ (fun v w''=>Ext w' w''∧v=.pointer (some ⟨rb,0,none⟩)) from ?_)
   clear hC hd hS
   go_simp
   exact Ext.refl _
  ·intro bb vals ρ w' hC hd hS
   have r22:ρ (.tmp 22)=.pointer (some ⟨rb,0,none⟩):=(hS.tmp 22).trans (hd.at 8 rfl)
   refine (show yap _ _ _ _ (fun v w''=>Ext w' w''∧v=.pointer (some ⟨rb,1,none⟩)) from ?_)
   clear hC hd hS
   go_simp
   exact Ext.refl _
  ·intro bb vals ρ w' hC hd hS
   have r23:ρ (.tmp 23)=.pointer (some ⟨rb,1,none⟩):=(hS.tmp 23).trans (hd.at 9 rfl)
   have qc:=hC.cell c1
   refine (show yap _ _ _ _ (fun v w''=>Ext w' w''∧v=.slice (some ⟨g,0,none⟩) ln cap) from ?_)
   clear hC hd hS
   go_simp
   exact Ext.refl _
  ·intro bb vals ρ w' hC hd hS
   have r24:ρ (.tmp 24)=.slice (some ⟨g,0,none⟩) ln cap:=(hS.tmp 24).trans (hd.at 10 rfl)
   refine (show yap _ _ _ _ (fun v w''=>Ext w' w''∧v=.int .i64 (ln:Int)) from ?_)
   clear hC hd hS
   go_simp
   exact Ext.refl _
  ·intro bb vals ρ w' hC hd hS
   have r25:ρ (.tmp 25)=.int .i64 (ln:Int):=(hS.tmp 25).trans (hd.at 11 rfl)
   have rc:=hS.const
   refine (show yap _ _ _ _ (fun v w''=>Ext w' w''∧v=.int .i64 (j:Int)) from ?_)
   clear hC hd hS
   go_simp
   exact ⟨Ext.refl _,HJ.out.1⟩
  ·intro bb vals ρ w' hC hd hS
   have r20:ρ (.tmp 20)=.slice (some ⟨g,0,none⟩) ln cap:=(hS.tmp 20).trans (hd.at 6 rfl)
   have r26:ρ (.tmp 26)=.int .i64 (j:Int):=(hS.tmp 26).trans (hd.at 12 rfl)
   refine (show yap _ _ _ _ (fun v w''=>Ext w' w''∧v=.pointer (some ⟨g,j,none⟩)) from ?_)
   have hjl:=HJ.out.2
   clear hC hd hS
   go_simp
   exact Ext.refl _
  ·intro bb vals ρ w' hC hd hS
   have r27:ρ (.tmp 27)=.pointer (some ⟨g,j,none⟩):=(hS.tmp 27).trans (hd.at 13 rfl)
   have qc:=hC.cell cg
   refine (show yap _ _ _ _ (fun v w''=>Ext w' w''∧v=.int .u8 (b:Int)) from ?_)
   clear hC hd hS
   go_simp
   exact Ext.refl _
  ·intro bb vals ρ w' hC hd hS
   have r29:ρ (.tmp 29)=.int .i64 (q:Int):=(hS.tmp 29).trans (hd.at 15 rfl)
   have rc:=hS.const
   refine (show yap _ _ _ _ (fun v w''=>Ext w' w''∧v=.int .u8 ((2 ^ q % 256:Nat):Int)) from ?_)
   clear hC hd hS
   go_simp
   exact ⟨Ext.refl _,ynj q⟩
  ·intro bb vals ρ w' hC hd hS
   have r30:ρ (.tmp 30)=.int .u8 ((2 ^ q % 256:Nat):Int):=(hS.tmp 30).trans (hd.at 16 rfl)
   have rc:=hS.const
   refine (show yap _ _ _ _ (fun v w''=>Ext w' w''∧v=.int .u8 ((2 ^ q - 1:Nat):Int)) from ?_)
   clear hC hd hS
   go_simp
   exact ⟨Ext.refl _,p_mask HQ8.out.1 HQ8.out.2⟩
  ·intro bb vals ρ w' hC hd hS
   have r28:ρ (.tmp 28)=.int .u8 (b:Int):=(hS.tmp 28).trans (hd.at 14 rfl)
   have r31:ρ (.tmp 31)=.int .u8 ((2 ^ q - 1:Nat):Int):=(hS.tmp 31).trans (hd.at 17 rfl)
   refine (show yap _ _ _ _ (fun v w''=>Ext w' w''∧v=.int .u8 ((b % 2 ^ q:Nat):Int)) from ?_)
   clear hC hd hS
   go_simp
   exact ⟨Ext.refl _,p_and3 HB8.out HQ8.out.2⟩
  ·intro bb vals ρ w' hC hd hS
   have r32:ρ (.tmp 32)=.int .u8 ((b % 2 ^ q:Nat):Int):=(hS.tmp 32).trans (hd.at 18 rfl)
   have rc:=hS.const
   refine (show yap _ _ _ _ (fun v w''=>Ext w' w''∧v=.bool z) from ?_)
   clear hC hd hS
   go_simp
   exact ⟨Ext.refl _,HZ.out⟩
  ·intro bb vals ρ w' hC hd hS
   have r16:ρ (.tmp 16)=.bool true:=(hS.tmp 16).trans (hd.at 2 rfl)
   have r33:ρ (.tmp 33)=.bool z:=(hS.tmp 33).trans (hd.at 19 rfl)
   have rc:=hS.const
   refine (show yap _ _ _ _ (fun v w''=>Ext w' w''∧v=.bool z) from ?_)
   clear hC hd hS
   go_simp
   exact Ext.refl _
 intro vals w' hC hV
 have e20:=hV 20 (by decide)
 simp only [vlist,ex,List.getD_cons_zero,List.getD_cons_succ] at e20
 have HC':=Lib.hid hC;clear hC hV
 simp only [List.drop_succ_cons,List.drop_zero]
 go_simp -- the frame
 cases z
 ·go_wp2
  go_ret
  exact ⟨rfl,((Ext.refl w).drewN nd).trans HC'.out⟩
 ·go_wp2
  go_ret
  exact ⟨rfl,((Ext.refl w).drewN nd).trans HC'.out⟩
theorem rend_c (rb B:Nat) (l:List UInt8) (at':Nat) (err:Int) (w:World) (h:RdIs w B rb l at' err) (hl:l.length≤140737488355328) (ha:at'≤8 * l.length):
  Calls Try.prog 130 #[.pointer (some ⟨rb,0,none⟩)] w fun e w'=>e=.returned (.int .i64 (endI l at' err))∧Ext w w':=by
 by_cases h0:err=0
 ·subst h0
  by_cases h8:at'+8≤8 * l.length
  ·have e:endI l at' 0=6:=by
    unfold endI endB
    rw [if_neg (by simp),if_neg (by rw [decide_eq_true_eq];omega)]
   rw [e]
   exact rend_many rb B l at' w h hl ha h8
  ·by_cases h9:at'=8 * l.length
   ·have e:endI l at' 0=0:=by
     unfold endI endB
     rw [if_neg (by simp),if_pos]
     rw [decide_eq_true_eq]
     refine ⟨by omega,?_⟩
     rw [show 8 * l.length - at'=0 by omega];rfl
    rw [e]
    exact rend_none rb B l at' w h hl ha h9
   ·have e:endI l at' 0=if val (ya5 l at' (8 * l.length - at'))=0 then 0 else 6:=by
     unfold endI endB
     rw [if_neg (by simp)]
     by_cases hv:val (ya5 l at' (8 * l.length - at'))=0
     ·rw [if_pos hv,if_pos (by rw [decide_eq_true_eq];exact ⟨by omega,hv⟩)]
     ·rw [if_neg hv,if_neg (by rw [decide_eq_true_eq];exact fun h=>hv h.2)]
    rw [e]
    exact rend_some rb B l at' w h hl ha (by omega) (by omega)
 ·have e:endI l at' err=err:=by unfold endI;rw [if_pos h0]
  rw [e]
  exact rend_err rb B l at' err w h hl ha h0
def putL (bl:List Bool) (err:Int) (x:Nat) (n:Int):List Bool:=if err=0∧yp8 x n then bl++yaf x n.toNat else bl
def putE (err:Int) (x:Nat) (n:Int):Int:=if err=0∧¬ yp8 x n then 2 else err
theorem wput_c (wb B:Nat) (bl:List Bool) (err:Int) (x:Nat) (n:Int) (w:World) (h:WrIs w B wb bl err) (hx:x<18446744073709551616) (hi:-9223372036854775808≤n∧n≤9223372036854775807) (hl:bl.length≤549755813888):
  Calls Try.prog 119 #[.pointer (some ⟨wb,0,none⟩),.int .u64 x,.int .i64 n] w fun r w'=>r=.returned (.pointer (some ⟨wb,0,none⟩))∧WrIs w' B wb (putL bl err x n) (putE err x n)∧WrMod wb w w':=by
 by_cases h0:err=0
 ·subst h0
  by_cases hf:yp8 x n
  ·have hf':=hf
   obtain ⟨f1,f2,f3⟩:=hf
   obtain ⟨m,rfl⟩:=Int.eq_ofNat_of_zero_le f1
   rw [putL,putE,if_pos ⟨rfl,hf'⟩,if_neg (fun h=>h.2 hf'),Int.toNat_natCast]
   rw [Int.toNat_natCast] at f3
   exact put_ok wb B bl x m w h (by omega) f3 (by omega)
  ·rw [putL,putE,if_neg (fun h=>hf h.2),if_pos ⟨rfl,hf⟩]
   exact put_bad wb B bl x n w h hx hf hi
 ·rw [putL,putE,if_neg (fun h=>h0 h.1),if_neg (fun h=>h0 h.1)]
  refine (yrw wb B bl err x n w h h0).mono ?_
  rintro r w' ⟨h1,rfl⟩
  exact ⟨h1,h,WrMod.of_ext (Ext.refl w) h.lt⟩
set_option maxHeartbeats 4000000 in
theorem wtext_err (wb B:Nat) (l:List Bool) (err:Int) (s:ByteArray) (w:World) (h:WrIs w B wb l err) (he:err≠0) (hs:s.size<65536):
  Calls Try.prog 201 #[.pointer (some ⟨wb,0,none⟩),.string s] w fun r w'=>r=.returned (.pointer (some ⟨wb,0,none⟩))∧w=w':=by
 have c0:=h.c0
 have H:=Lib.hid h;clear h
 obtain ⟨n,hn⟩:∃ n,n=s.size:=⟨_,rfl⟩
 have hn2:n<65536:=by omega
 have HN:=Lib.hid hn
 have hsi:¬ (65536:Int)≤(s.size:Int):=by omega
 have hsi2:((65536:Int)≤(s.size:Int))=False:=eq_false hsi
 clear hsi
 have HN2:=Lib.hid hn2
 have HE:=Lib.hid he
 clear hs hn2 hn he
 have hwr:IntKind.u64.wrap (s.size:Int)=(s.size:Int):=by rw [IntKind.wrap_u64];have:=HN.out;have:=HN2.out;omega
 go_enter Try.func201,Try.ntmps201
 go_wp2_with fail
 refine (yrw wb B l err s.size 16 w H.out HE.out).mono ?_
 rintro e w1 ⟨rfl,rfl⟩
 clear c0
 go_wp2_with fail
 have hsz:s.size=n:=HN.out.symm
 rw [hsz]
 have hnb:n≤9223372036854775806:=by have:=HN2.out;omega
 go_loopw [28] (fun i wr=>∃ k:Nat,k≤n∧i=.int .i64 k∧w=wr) (fun i _=>n - (intOf i).toNat)
 case atStart=>exact ⟨0,zbn _,rfl,rfl⟩
 case round=>
  obtain ⟨k,hk,rfl,rfl⟩:=hrel
  by_cases hlt:k<n
  ·have hki:(k:Int)<(n:Int):=by omega
   have hks:k<s.size:=by rw [hsz];exact hlt
   have HB8:Hid ((s[k]'hks).toNat<256):=Lib.hid (UInt8.toNat_lt _)
   go_wp2_with fail
   rw [IntKind.wrap_u64,Int.emod_eq_of_lt (by omega) (by have:=HB8.out;omega)]
   refine (yrw wb B l err (s[k]).toNat 8 w H.out HE.out).mono ?_
   rintro e w2 ⟨rfl,rfl⟩
   go_wp2_with fail
   go_roundw
   case rel=>exact ⟨k+1,by omega,by go_num,trivial⟩
   case measure=>simp [intOf];omega
  ·have hkn:k=n:=by omega
   subst hkn
   go_wp2_with fail
   go_ret
   exact ⟨rfl,rfl⟩
def yvk (bl:List Bool) (err:Int) (s:ByteArray):List Bool:=if err=0 then bl++ya2 s.data.toList else bl
theorem wtext_c (wb B:Nat) (bl:List Bool) (err:Int) (s:ByteArray) (w:World) (h:WrIs w B wb bl err) (hs:s.size<65536) (hl:bl.length≤549755813888):
  Calls Try.prog 201 #[.pointer (some ⟨wb,0,none⟩),.string s] w fun r w'=>r=.returned (.pointer (some ⟨wb,0,none⟩))∧WrIs w' B wb (yvk bl err s) err∧WrMod wb w w':=by
 by_cases h0:err=0
 ·subst h0
  rw [yvk,if_pos rfl]
  exact wtext_ok wb B bl s w h hs hl
 ·rw [yvk,if_neg h0]
  refine (wtext_err wb B bl err s w h h0 hs).mono ?_
  rintro r w' ⟨h1,rfl⟩
  exact ⟨h1,h,WrMod.of_ext (Ext.refl w) h.lt⟩
def bb (b:Bool):UInt8:=if b then 1 else 0
def bbs (l:List Bool):List UInt8:=l.map bb
theorem ycg (l:List Bool):(bbs l).length=l.length:=by simp [bbs]
theorem yin (l m:List Bool):bbs (l++m)=bbs l++bbs m:=zba
theorem bit_val (x j:Nat) (hx:x<18446744073709551616):bits .and .u64 ((x:Int) / 2 ^ j) 1 % 256=((bb (x.testBit j)).toNat:Int):=by
 have h1:x / 2 ^ j<18446744073709551616:=Nat.lt_of_le_of_lt (Nat.div_le_self _ _) hx
 have h2:=u64_and_nat (x / 2 ^ j) 1 h1 (by decide)
 rw [Nat.and_one_is_mod] at h2
 have e:(x:Int) / 2 ^ j=((x / 2 ^ j:Nat):Int):=by push_cast;rfl
 rw [e,show (1:Int)=((1:Nat):Int) from rfl,h2,Nat.testBit_eq_decide_div_mod_eq]
 rcases (show x / 2 ^ j % 2=0∨x / 2 ^ j % 2=1 by omega) with h|h<;>rw [h]<;>rfl
set_option maxHeartbeats 2000000 in
theorem yru (x n:Nat) (w:World) (hn:n≤64) (hx:x<18446744073709551616):
  Calls Try.prog 122 #[.int .u64 x,.int .i64 n] w fun e w'=>∃ ao cap,e=.returned (.slice ao n cap)∧Ext w w'∧w'.ownsRow w.heap.size 5 1 (.slice ao n cap) n ((bbs (yaf x n)).map bv):=by
 have HXB:=Lib.hid hx
 clear hx
 go_enter Try.func122,Try.ntmps122
 go_wp2_with fail
 go_loopw [5,6] (fun v i wr=>∃ (k:Nat) (ao:Option Addr) (cap:Nat),k≤n∧i=.int .i64 ((k:Int) - 1)∧v=.slice ao (n - k) cap∧Ext w wr∧wr.ownsRow w.heap.size 5 1 (.slice ao (n - k) cap) (n - k) ((bbs ((yaf x n).take (n - k))).map bv)) (fun _ i _=>(intOf i+1).toNat)
 case atStart=>exact ⟨n,none,0,zbm _,rfl,by rw [Nat.sub_self],Ext.refl w,by rw [Nat.sub_self];exact World.ownsRow_nil _ _ _ _⟩
 case round=>
  obtain ⟨k,ao,cap,hk,rfl,rfl,hx,ho⟩:=hrel
  have HX:=Lib.hid hx
  have HO:=Lib.hid ho
  clear hx ho
  by_cases h0:k=0
  ·subst h0
   go_wp2_with fail
   rw [Nat.sub_zero] at HO ⊢
   go_ret
   exact ⟨ao,cap,rfl,HX.out,by have:=HO.out;rwa [zaq (by rw [yae];exact zbm _)] at this⟩
  ·obtain ⟨j,rfl⟩:∃ j,k=j+1:=⟨k - 1,by omega⟩
   have hV:=bit_val x j HXB.out
   obtain ⟨q,hq⟩:∃ q,q=n - (j+1):=⟨_,rfl⟩
   rw [← hq] at HO ⊢
   have HQ:=Lib.hid hq
   have HSZ:Hid (w.heap.size≤wr.heap.size∧q≤64):=Lib.hid ⟨HX.out.size,by omega⟩
   clear hq
   go_wp2_with (first|(at_builtin;go_loud (refine yek rfl (.tmp 17) (.tmp 24) 37 rfl ydp w.heap.size rfl (ycs HO.out ((Ext.refl wr).alloc _)) rfl (Rs.of_owns (yds (n:=1) (size:=1) (cs:=#[bv (bb (x.testBit j))]) rfl (zbm _) (by decide))) (yb3 [bb (x.testBit j)]) (by have:=HSZ.out;omega) (by have:=HSZ.out;omega) (by have:=HSZ.out;simp;omega) ?_);intro v' w1 hown hgr _)|fail)
   have hx1:Ext w w1:=(HX.out.alloc _).grown hgr fun i hi=>(yar HO.out hi).1
   obtain ⟨no,ncap,rfl⟩:=yer hown
   have HOWN:=Lib.hid hown
   have HX1:=Lib.hid hx1
   clear hown hgr hx1 hV
   go_roundw
   case rel=>
    have hq:=HQ.out
    refine ⟨j,no,ncap,by omega,by first|rfl|(refine congrArg (Value.int .i64) ?_;omega),by rw [show n - j=q+1 by omega],HX1.out,?_⟩
    rw [show n - j=q+1 by omega]
    have e:bbs ((yaf x n).take (q+1))=bbs ((yaf x n).take q)++[bb (x.testBit j)]:=by
     rw [List.take_add_one,bitsOf_getElem? x n q (by omega),yin,show n - 1 - q=j by omega]
     rfl
    rw [e,zba]
    exact HOWN.out
   case measure=>simp [intOf]
set_option maxHeartbeats 4000000 in
theorem rtextb_c (s:ByteArray) (w:World) (hs:s.size≤60000):
  Calls Try.prog 124 #[.string s] w fun e w'=>∃ ao cap,e=.returned (.slice ao (16+8 * s.size) cap)∧Ext w w'∧w'.ownsRow w.heap.size 5 1 (.slice ao (16+8 * s.size) cap) (16+8 * s.size) ((bbs (ya2 s.data.toList)).map bv):=by
 obtain ⟨n,hn⟩:∃ n,n=s.size:=⟨_,rfl⟩
 have HN:=Lib.hid hn
 have HNL:Hid (n=s.data.toList.length):=Lib.hid hn
 have hn40:n≤60000:=by omega
 have hcv:IntKind.u64.wrap (n:Int)=(n:Int):=by rw [IntKind.wrap_u64];omega
 rw [← hn]
 have hsz:(s.size:Int)=(n:Int):=by omega
 clear hn hs
 go_enter Try.func124,Try.ntmps124
 go_wp2_with fail
 refine (yru n 16 w (by decide) (by omega)).mono ?_
 rintro e w1 ⟨ao,cap,rfl,hx,ho⟩
 have HX:=Lib.hid hx
 have HO:=Lib.hid ho
 clear hx ho
 go_wp2_with fail
 go_loopw [3,4] (fun v i wr=>∃ (k:Nat) (ao:Option Addr) (cap:Nat),k≤n∧i=.int .i64 k∧v=.slice ao (16+8 * k) cap∧Ext w wr∧wr.ownsRow w.heap.size 5 1 (.slice ao (16+8 * k) cap) (16+8 * k) ((bbs (yaf n 16++ya4 (s.data.toList.take k))).map bv)) (fun _ i _=>n - (intOf i).toNat)
 case atStart=>exact ⟨0,ao,cap,zbn _,rfl,rfl,HX.out,by have:=HO.out;simpa [ya4] using this⟩
 case round=>
  obtain ⟨k,ao,cap,hk,rfl,rfl,hx,ho⟩:=hrel
  have HX:=Lib.hid hx
  have HO:=Lib.hid ho
  clear hx ho
  by_cases hlt:k<n
  ·have hki:(k:Int)<(n:Int):=by omega
   have hks:k<s.size:=by rw [← HN.out];exact hlt
   have HB8:Hid ((s[k]'hks).toNat<256):=Lib.hid (UInt8.toNat_lt _)
   have HKL:Hid (k<s.data.toList.length):=Lib.hid (by rw [← HNL.out];exact hlt)
   have HBK:Hid (s.data.toList.getD k 0=s[k]'hks):=Lib.hid (by
    have h1:s.data.toList[k]? =some (s[k]'hks):=List.getElem?_eq_some_iff.2 ⟨HKL.out,rfl⟩
    simp [List.getD,h1])
   go_wp2_with fail
   rw [IntKind.wrap_u64,Int.emod_eq_of_lt (by omega) (by have:=HB8.out;omega)]
   refine (yru (s[k]).toNat 8 wr (by decide) (by have:=HB8.out;omega)).mono ?_
   rintro e w2 ⟨bo,bcap,rfl,hx2,ho2⟩
   have HX2:=Lib.hid hx2
   have HO2:=Lib.hid ho2
   have HO3:=Lib.hid (ycs HO.out hx2)
   have HSZ:Hid (w.heap.size≤w2.heap.size∧k≤60000):=Lib.hid ⟨Nat.le_trans HX.out.size hx2.size,by omega⟩
   clear hx2 ho2
   obtain ⟨q,hq⟩:∃ q,q=16+8 * k:=⟨_,rfl⟩
   rw [← hq] at HO3 ⊢
   have HQ:=Lib.hid hq
   clear hq
   go_wp2_with (first|(at_builtin;go_loud (refine yek rfl (.tmp 15) (.tmp 20) 37 rfl ydp w.heap.size rfl HO3.out rfl (Rs.of_owns HO2.out) (yb3 _) (by have:=HSZ.out;have:=HQ.out;omega) (by have:=HSZ.out;have:=HQ.out;omega) (by have:=HSZ.out;omega) ?_);intro v' w3 hown hgr _)|fail)
   have hx3:Ext w w3:=(HX.out.trans HX2.out).grown hgr fun i hi=>(yar HO3.out hi).1
   obtain ⟨no,ncap,rfl⟩:=yer hown
   have HOWN:=Lib.hid hown
   have HX3:=Lib.hid hx3
   clear hown hgr hx3
   go_roundw
   case rel=>
    have hq:=HQ.out
    refine ⟨k+1,no,ncap,by omega,by go_num,by rw [show 16+8 * (k+1)=q+8 by omega],HX3.out,?_⟩
    rw [show 16+8 * (k+1)=q+8 by omega,ye2 _ _ HKL.out,HBK.out,←List.append_assoc,yin,zba]
    exact HOWN.out
   case measure=>simp [intOf];omega
  ·have hkn:k=n:=by omega
   have hki:((k:Int)<(n:Int))=False:=eq_false (by omega)
   subst hkn
   clear hlt
   go_wp2_with fail
   go_ret
   refine ⟨ao,cap,rfl,HX.out,?_⟩
   have:=HO.out
   rw [zaq (by rw [← HNL.out];exact zbm _)] at this
   unfold ya2
   rwa [← HNL.out]
end Go.Proofs.Ytiiekgcjilelpaa
