/- G2. -/
import Derived.Test.YtdenmoiaiemokaaG1p
import Derived.Test.YtdenmoiaiemokaaOpenp
import Derived.Test.YtdenmoiaiemokaaG0p
set_option linter.unusedVariables false
set_option linter.unusedSimpArgs false
namespace Go.Proofs.Ytdenmoiaiemokaa
open Go.RowKit
set_option maxHeartbeats 1000000 in
theorem rget_err (rb B:Nat) (l:List UInt8) (at':Nat) (err n:Int) (w:World) (h:RdIs w B rb l at' err) (h0:err≠0):
  Calls Try.prog 158 #[.pointer (some ⟨rb,0,none⟩),.int .i64 n] w fun e w'=>e=.returned (.int .u64 0)∧w=w':=by
 have H:=Lib.hid h;clear h
 have hb:(err != 0)=true:=by simpa using h0
 clear h0
 go_enter Try.func158,Try.ntmps158
 go_wp2_with fail
 refine (rerr_c rb B l at' err w H.out).mono ?_
 rintro e w1 ⟨rfl,rfl⟩
 go_wp2
 go_ret
 exact ⟨rfl,rfl⟩
set_option maxHeartbeats 1000000 in
theorem rget_arg (rb B:Nat) (l:List UInt8) (at':Nat) (n:Int) (w:World) (h:RdIs w B rb l at' 0) (hn:n<0∨64<n):
  Calls Try.prog 158 #[.pointer (some ⟨rb,0,none⟩),.int .i64 n] w fun e w'=>e=.returned (.int .u64 0)∧RdIs w' B rb l at' 2∧Mod (fun k=>k=rb) w w':=by
 have c3:=h.c3
 have f3:=h.fz 3
 have H:=Lib.hid h;clear h
 rcases hn with hn|hn
 all_goals
  go_enter Try.func158,Try.ntmps158
  go_wp2_with fail
  refine (rerr_c rb B l at' 0 w H.out).mono ?_
  rintro e w1 ⟨rfl,rfl⟩
  go_wp2
  go_ret
  exact ⟨rfl,H.out.setErr 2,Mod.setCell (F:=fun k=>k=rb) (p:=⟨rb,3,none⟩) (Mod.refl _ w) (fun _=>rfl) _⟩
set_option maxHeartbeats 1000000 in
theorem rget_short (rb B:Nat) (l:List UInt8) (at':Nat) (n:Int) (w:World) (h:RdIs w B rb l at' 0) (hn:0≤n) (hn':n≤64) (hf:8 * (l.length:Int)<(at':Int)+n) (hl:l.length≤140737488355328) (ha:at'≤8 * l.length):
  Calls Try.prog 158 #[.pointer (some ⟨rb,0,none⟩),.int .i64 n] w fun e w'=>e=.returned (.int .u64 0)∧RdIs w' B rb l at' 3∧Mod (fun k=>k=rb) w w':=by
 have H:=Lib.hid h;clear h
 have HL:=Lib.hid hl
 have HA:=Lib.hid ha
 have hleft:leftI l at' 0<n:=by rw [leftI_zero];omega
 generalize hlf:leftI l at' 0=lf at hleft
 have HLF:=Lib.hid hlf
 clear hlf hf hl ha
 go_enter Try.func158,Try.ntmps158
 go_wp2_with fail
 refine (rerr_c rb B l at' 0 w H.out).mono ?_
 rintro e w1 ⟨rfl,rfl⟩
 go_wp2_with fail
 refine (rleft_c rb B l at' 0 w H.out HL.out HA.out).mono ?_
 rintro e w1 ⟨rfl,nd,rfl⟩
 rw [HLF.out]
 have H':=Lib.hid (H.out.ext ((Ext.refl w).drewN nd))
 have c3:=H'.out.c3
 have f3:=H'.out.fz 3
 go_wp2
 go_ret
 exact ⟨rfl,H'.out.setErr 3,Mod.setCell (F:=fun k=>k=rb) (p:=⟨rb,3,none⟩) ((Ext.refl w).drewN nd).mod (fun _=>rfl) _⟩
def getV (l:List UInt8) (at':Nat) (err n:Int):Nat:=if err=0∧0≤n∧n≤64∧(at':Int)+n≤8 * (l.length:Int) then val (bitsFrom l at' n.toNat) else 0
def getAt (l:List UInt8) (at':Nat) (err n:Int):Nat:=if err=0∧0≤n∧n≤64∧(at':Int)+n≤8 * (l.length:Int) then at'+n.toNat else at'
def getE (l:List UInt8) (at':Nat) (err n:Int):Int:=if err≠0 then err else if n<0∨64<n then 2 else if 8 * (l.length:Int)<(at':Int)+n then 3 else 0
theorem rget_c (rb B:Nat) (l:List UInt8) (at':Nat) (err n:Int) (w:World) (h:RdIs w B rb l at' err) (hl:l.length≤140737488355328) (ha:at'≤8 * l.length):
  Calls Try.prog 158 #[.pointer (some ⟨rb,0,none⟩),.int .i64 n] w fun e w'=>e=.returned (.int .u64 (getV l at' err n:Int))∧RdIs w' B rb l (getAt l at' err n) (getE l at' err n)∧Mod (fun k=>k=rb) w w':=by
 by_cases h0:err=0
 ·subst h0
  by_cases h1:n<0∨64<n
  ·have e:¬ ((0:Int)=0∧0≤n∧n≤64∧(at':Int)+n≤8 * (l.length:Int)):=by omega
   rw [getV,getAt,getE,if_neg e,if_neg e,if_neg (by simp),if_pos h1]
   exact rget_arg rb B l at' n w h h1
  ·by_cases h2:8 * (l.length:Int)<(at':Int)+n
   ·have e:¬ ((0:Int)=0∧0≤n∧n≤64∧(at':Int)+n≤8 * (l.length:Int)):=by omega
    rw [getV,getAt,getE,if_neg e,if_neg e,if_neg (by simp),if_neg h1,if_pos h2]
    exact rget_short rb B l at' n w h (by omega) (by omega) h2 hl ha
   ·have e:((0:Int)=0∧0≤n∧n≤64∧(at':Int)+n≤8 * (l.length:Int)):=by omega
    rw [getV,getAt,getE,if_pos e,if_pos e,if_neg (by simp),if_neg h1,if_neg h2]
    obtain ⟨m,rfl⟩:=Int.eq_ofNat_of_zero_le (show 0≤n by omega)
    rw [Int.toNat_natCast]
    exact rget_ok rb B l at' m w h (by omega) (by omega) hl
 ·have e:¬ (err=0∧0≤n∧n≤64∧(at':Int)+n≤8 * (l.length:Int)):=by omega
  rw [getV,getAt,getE,if_neg e,if_neg e,if_pos h0]
  refine (rget_err rb B l at' err n w h h0).mono ?_
  rintro e w' ⟨h1,rfl⟩
  exact ⟨h1,h,Mod.refl _ w⟩
theorem WrIs.fge {w:World} {B wb:Nat} {l:List Bool} {err:Int} (h:WrIs w B wb l err):∀ k,WrF w wb k→B≤k:=by
 obtain ⟨ao,cap,h1,h2,h3⟩:=h
 rintro k (rfl|⟨v,q1,q2⟩)
 ·exact h2
 ·rw [cell_of_blk h1] at q1
  simp only [List.size_toArray,List.getElem?_toArray,List.getElem?_cons_succ,List.getElem?_cons_zero,Option.some.injEq] at q1
  subst q1
  exact (owns_block h3 q2).1
end Go.Proofs.Ytdenmoiaiemokaa
set_option linter.unusedVariables false
set_option linter.unusedSimpArgs false
namespace Go.Proofs.Ytdenmoiaiemokaa
open Go.RowKit
end Go.Proofs.Ytdenmoiaiemokaa
set_option linter.unusedVariables false
set_option linter.unusedSimpArgs false
namespace Go.Proofs.Ytdenmoiaiemokaa
open Go.RowKit
end Go.Proofs.Ytdenmoiaiemokaa
set_option linter.unusedVariables false
set_option linter.unusedSimpArgs false
namespace Go.Proofs.Ytdenmoiaiemokaa
open Go.RowKit
end Go.Proofs.Ytdenmoiaiemokaa
set_option linter.unusedVariables false
set_option linter.unusedSimpArgs false
namespace Go.Proofs.Ytdenmoiaiemokaa
open Go.RowKit
end Go.Proofs.Ytdenmoiaiemokaa
set_option linter.unusedVariables false
set_option linter.unusedSimpArgs false
namespace Go.Proofs.Ytdenmoiaiemokaa
open Go.RowKit
def putL (bl:List Bool) (err:Int) (x:Nat) (n:Int):List Bool:=if err=0∧fitsN x n then bl++bitsOf x n.toNat else bl
def putE (err:Int) (x:Nat) (n:Int):Int:=if err=0∧¬ fitsN x n then 2 else err
theorem wput_c (wb B:Nat) (bl:List Bool) (err:Int) (x:Nat) (n:Int) (w:World) (h:WrIs w B wb bl err) (hx:x<18446744073709551616) (hi:-9223372036854775808≤n∧n≤9223372036854775807) (hl:bl.length≤549755813888):
  Calls Try.prog 143 #[.pointer (some ⟨wb,0,none⟩),.int .u64 x,.int .i64 n] w fun r w'=>r=.returned (.pointer (some ⟨wb,0,none⟩))∧WrIs w' B wb (putL bl err x n) (putE err x n)∧WrMod wb w w':=by
 by_cases h0:err=0
 ·subst h0
  by_cases hf:fitsN x n
  ·have hf':=hf
   obtain ⟨f1,f2,f3⟩:=hf
   obtain ⟨m,rfl⟩:=Int.eq_ofNat_of_zero_le f1
   rw [putL,putE,if_pos ⟨rfl,hf'⟩,if_neg (fun h=>h.2 hf'),Int.toNat_natCast]
   rw [Int.toNat_natCast] at f3
   exact put_ok wb B bl x m w h (by omega) f3 (by omega)
  ·rw [putL,putE,if_neg (fun h=>hf h.2),if_pos ⟨rfl,hf⟩]
   exact put_bad wb B bl x n w h hx hf hi
 ·rw [putL,putE,if_neg (fun h=>h0 h.1),if_neg (fun h=>h0 h.1)]
  refine (put_err wb B bl err x n w h h0).mono ?_
  rintro r w' ⟨h1,rfl⟩
  exact ⟨h1,h,WrMod.of_ext (Ext.refl w) h.lt⟩
end Go.Proofs.Ytdenmoiaiemokaa
set_option linter.unusedVariables false
set_option linter.unusedSimpArgs false
namespace Go.Proofs.Ytdenmoiaiemokaa
open Go.RowKit
def bb (b:Bool):UInt8:=if b then 1 else 0
def bbs (l:List Bool):List UInt8:=l.map bb
theorem bbs_length (l:List Bool):(bbs l).length=l.length:=by simp [bbs]
theorem bbs_append (l m:List Bool):bbs (l++m)=bbs l++bbs m:=List.map_append
theorem bit_val (x j:Nat) (hx:x<18446744073709551616):bits .and .u64 ((x:Int) / 2 ^ j) 1 % 256=((bb (x.testBit j)).toNat:Int):=by
 have h1:x / 2 ^ j<18446744073709551616:=Nat.lt_of_le_of_lt (Nat.div_le_self _ _) hx
 have h2:=u64_and_nat (x / 2 ^ j) 1 h1 (by decide)
 rw [Nat.and_one_is_mod] at h2
 have e:(x:Int) / 2 ^ j=((x / 2 ^ j:Nat):Int):=by push_cast;rfl
 rw [e,show (1:Int)=((1:Nat):Int) from rfl,h2,Nat.testBit_eq_decide_div_mod_eq]
 rcases (show x / 2 ^ j % 2=0∨x / 2 ^ j % 2=1 by omega) with h|h<;>rw [h]<;>rfl
set_option maxRecDepth 100000 in
set_option maxHeartbeats 2000000 in
theorem rbits_c (x n:Nat) (w:World) (hn:n≤64) (hx:x<18446744073709551616):
  Calls Try.prog 156 #[.int .u64 x,.int .i64 n] w fun e w'=>∃ ao cap,e=.returned (.slice ao n cap)∧Ext w w'∧w'.ownsRow w.heap.size 5 1 (.slice ao n cap) n ((bbs (bitsOf x n)).map bv):=by
 have HXB:=Lib.hid hx
 clear hx
 go_enter Try.func156,Try.ntmps156
 go_wp2_with fail
 go_loopw [5,6] (fun v i wr=>∃ (k:Nat) (ao:Option Addr) (cap:Nat),k≤n∧i=.int .i64 ((k:Int) - 1)∧v=.slice ao (n - k) cap∧Ext w wr∧wr.ownsRow w.heap.size 5 1 (.slice ao (n - k) cap) (n - k) ((bbs ((bitsOf x n).take (n - k))).map bv)) (fun _ i _=>(intOf i+1).toNat)
 case atStart=>exact ⟨n,none,0,Nat.le_refl _,rfl,by rw [Nat.sub_self],Ext.refl w,by rw [Nat.sub_self];exact World.ownsRow_nil _ _ _ _⟩
 case round=>
  obtain ⟨k,ao,cap,hk,rfl,rfl,hx,ho⟩:=hrel
  have HX:=Lib.hid hx
  have HO:=Lib.hid ho
  clear hx ho
  by_cases h0:k=0
  ·subst h0
   go_wp2_with fail
   rw [Nat.sub_zero] at HO ⊢
   go_ret
   exact ⟨ao,cap,rfl,HX.out,by have:=HO.out;rwa [List.take_of_length_le (by rw [bitsOf_length];exact Nat.le_refl _)] at this⟩
  ·obtain ⟨j,rfl⟩:∃ j,k=j+1:=⟨k - 1,by omega⟩
   have hV:=bit_val x j HXB.out
   obtain ⟨q,hq⟩:∃ q,q=n - (j+1):=⟨_,rfl⟩
   rw [← hq] at HO ⊢
   have HQ:=Lib.hid hq
   have HSZ:Hid (w.heap.size≤wr.heap.size∧q≤64):=Lib.hid ⟨HX.out.size,by omega⟩
   clear hq
   go_wp2_with (first|(at_builtin;go_loud (refine wpList_app rfl (.tmp 17) (.tmp 24) 29 rfl etBytes w.heap.size rfl (owns_ext HO.out ((Ext.refl wr).alloc _)) rfl (Rs.of_owns (owns_lit (n:=1) (size:=1) (cs:=#[bv (bb (x.testBit j))]) rfl (Nat.le_refl _) (by decide))) (oneCell_bv [bb (x.testBit j)]) (by have:=HSZ.out;omega) (by have:=HSZ.out;omega) (by have:=HSZ.out;simp;omega) ?_);intro v' w1 hown hgr _)|fail)
   have hx1:Ext w w1:=(HX.out.alloc _).grown hgr fun i hi=>(owns_block HO.out hi).1
   obtain ⟨no,ncap,rfl⟩:=owns_shape hown
   have HOWN:=Lib.hid hown
   have HX1:=Lib.hid hx1
   clear hown hgr hx1 hV
   go_roundw
   case rel=>
    have hq:=HQ.out
    refine ⟨j,no,ncap,by omega,by first|rfl|(refine congrArg (Value.int .i64) ?_;omega),by rw [show n - j=q+1 by omega],HX1.out,?_⟩
    rw [show n - j=q+1 by omega]
    have e:bbs ((bitsOf x n).take (q+1))=bbs ((bitsOf x n).take q)++[bb (x.testBit j)]:=by
     rw [List.take_add_one,bitsOf_getElem? x n q (by omega),bbs_append,show n - 1 - q=j by omega]
     rfl
    rw [e,List.map_append]
    exact HOWN.out
   case measure=>simp [intOf]
end Go.Proofs.Ytdenmoiaiemokaa
