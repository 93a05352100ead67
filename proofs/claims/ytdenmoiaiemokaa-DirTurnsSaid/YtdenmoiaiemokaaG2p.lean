/- G2. -/
import Derived.Test.YtdenmoiaiemokaaG1p
import Derived.Test.YtdenmoiaiemokaaOpenp
import Derived.Test.YtdenmoiaiemokaaG0p
set_option linter.unusedVariables false
set_option linter.unusedSimpArgs false
namespace Go.Proofs.Ytdenmoiaiemokaa
open Go.RowKit
set_option maxHeartbeats 1000000 in
theorem rget_err (rb B:Nat) (l:List UInt8) (at':Nat) (err n:Int) (w:World) (h:RdIs w B rb l at' err) (h0:err≠0):
  Calls Try.prog 158 #[.pointer (some ⟨rb,0,none⟩),.int .i64 n] w fun e w'=>e=.returned (.int .u64 0)∧w=w':=by
 have H:=Lib.hid h;clear h
 have hb:(err != 0)=true:=by simpa using h0
 clear h0
 go_enter Try.func158,Try.ntmps158
 go_wp2_with fail
 refine (rerr_c rb B l at' err w H.out).mono ?_
 rintro e w1 ⟨rfl,rfl⟩
 go_wp2
 go_ret
 exact ⟨rfl,rfl⟩
set_option maxHeartbeats 1000000 in
theorem rget_arg (rb B:Nat) (l:List UInt8) (at':Nat) (n:Int) (w:World) (h:RdIs w B rb l at' 0) (hn:n<0∨64<n):
  Calls Try.prog 158 #[.pointer (some ⟨rb,0,none⟩),.int .i64 n] w fun e w'=>e=.returned (.int .u64 0)∧RdIs w' B rb l at' 2∧Mod (fun k=>k=rb) w w':=by
 have c3:=h.c3
 have f3:=h.fz 3
 have H:=Lib.hid h;clear h
 rcases hn with hn|hn
 all_goals
  go_enter Try.func158,Try.ntmps158
  go_wp2_with fail
  refine (rerr_c rb B l at' 0 w H.out).mono ?_
  rintro e w1 ⟨rfl,rfl⟩
  go_wp2
  go_ret
  exact ⟨rfl,H.out.setErr 2,Mod.setCell (F:=fun k=>k=rb) (p:=⟨rb,3,none⟩) (Mod.refl _ w) (fun _=>rfl) _⟩
set_option maxHeartbeats 1000000 in
theorem rget_short (rb B:Nat) (l:List UInt8) (at':Nat) (n:Int) (w:World) (h:RdIs w B rb l at' 0) (hn:0≤n) (hn':n≤64) (hf:8 * (l.length:Int)<(at':Int)+n) (hl:l.length≤140737488355328) (ha:at'≤8 * l.length):
  Calls Try.prog 158 #[.pointer (some ⟨rb,0,none⟩),.int .i64 n] w fun e w'=>e=.returned (.int .u64 0)∧RdIs w' B rb l at' 3∧Mod (fun k=>k=rb) w w':=by
 have H:=Lib.hid h;clear h
 have HL:=Lib.hid hl
 have HA:=Lib.hid ha
 have hleft:leftI l at' 0<n:=by rw [leftI_zero];omega
 generalize hlf:leftI l at' 0=lf at hleft
 have HLF:=Lib.hid hlf
 clear hlf hf hl ha
 go_enter Try.func158,Try.ntmps158
 go_wp2_with fail
 refine (rerr_c rb B l at' 0 w H.out).mono ?_
 rintro e w1 ⟨rfl,rfl⟩
 go_wp2_with fail
 refine (rleft_c rb B l at' 0 w H.out HL.out HA.out).mono ?_
 rintro e w1 ⟨rfl,nd,rfl⟩
 rw [HLF.out]
 have H':=Lib.hid (H.out.ext ((Ext.refl w).drewN nd))
 have c3:=H'.out.c3
 have f3:=H'.out.fz 3
 go_wp2
 go_ret
 exact ⟨rfl,H'.out.setErr 3,Mod.setCell (F:=fun k=>k=rb) (p:=⟨rb,3,none⟩) ((Ext.refl w).drewN nd).mod (fun _=>rfl) _⟩
def getV (l:List UInt8) (at':Nat) (err n:Int):Nat:=if err=0∧0≤n∧n≤64∧(at':Int)+n≤8 * (l.length:Int) then val (bitsFrom l at' n.toNat) else 0
def getAt (l:List UInt8) (at':Nat) (err n:Int):Nat:=if err=0∧0≤n∧n≤64∧(at':Int)+n≤8 * (l.length:Int) then at'+n.toNat else at'
def getE (l:List UInt8) (at':Nat) (err n:Int):Int:=if err≠0 then err else if n<0∨64<n then 2 else if 8 * (l.length:Int)<(at':Int)+n then 3 else 0
theorem rget_c (rb B:Nat) (l:List UInt8) (at':Nat) (err n:Int) (w:World) (h:RdIs w B rb l at' err) (hl:l.length≤140737488355328) (ha:at'≤8 * l.length):
  Calls Try.prog 158 #[.pointer (some ⟨rb,0,none⟩),.int .i64 n] w fun e w'=>e=.returned (.int .u64 (getV l at' err n:Int))∧RdIs w' B rb l (getAt l at' err n) (getE l at' err n)∧Mod (fun k=>k=rb) w w':=by
 by_cases h0:err=0
 ·subst h0
  by_cases h1:n<0∨64<n
  ·have e:¬ ((0:Int)=0∧0≤n∧n≤64∧(at':Int)+n≤8 * (l.length:Int)):=by omega
   rw [getV,getAt,getE,if_neg e,if_neg e,if_neg (by simp),if_pos h1]
   exact rget_arg rb B l at' n w h h1
  ·by_cases h2:8 * (l.length:Int)<(at':Int)+n
   ·have e:¬ ((0:Int)=0∧0≤n∧n≤64∧(at':Int)+n≤8 * (l.length:Int)):=by omega
    rw [getV,getAt,getE,if_neg e,if_neg e,if_neg (by simp),if_neg h1,if_pos h2]
    exact rget_short rb B l at' n w h (by omega) (by omega) h2 hl ha
   ·have e:((0:Int)=0∧0≤n∧n≤64∧(at':Int)+n≤8 * (l.length:Int)):=by omega
    rw [getV,getAt,getE,if_pos e,if_pos e,if_neg (by simp),if_neg h1,if_neg h2]
    obtain ⟨m,rfl⟩:=Int.eq_ofNat_of_zero_le (show 0≤n by omega)
    rw [Int.toNat_natCast]
    exact rget_ok rb B l at' m w h (by omega) (by omega) hl
 ·have e:¬ (err=0∧0≤n∧n≤64∧(at':Int)+n≤8 * (l.length:Int)):=by omega
  rw [getV,getAt,getE,if_neg e,if_neg e,if_pos h0]
  refine (rget_err rb B l at' err n w h h0).mono ?_
  rintro e w' ⟨h1,rfl⟩
  exact ⟨h1,h,Mod.refl _ w⟩
theorem WrIs.fge {w:World} {B wb:Nat} {l:List Bool} {err:Int} (h:WrIs w B wb l err):∀ k,WrF w wb k→B≤k:=by
 obtain ⟨ao,cap,h1,h2,h3⟩:=h
 rintro k (rfl|⟨v,q1,q2⟩)
 ·exact h2
 ·rw [cell_of_blk h1] at q1
  simp only [List.size_toArray,List.getElem?_toArray,List.getElem?_cons_succ,List.getElem?_cons_zero,Option.some.injEq] at q1
  subst q1
  exact (owns_block h3 q2).1
end Go.Proofs.Ytdenmoiaiemokaa
set_option linter.unusedVariables false
set_option linter.unusedSimpArgs false
namespace Go.Proofs.Ytdenmoiaiemokaa
open Go.RowKit
set_option maxHeartbeats 1000000 in
theorem short_c (s:ByteArray) (n:Nat) (hn:n≤9223372036854775807) (w:World):
  Calls Try.prog 64 #[.string s,.int .i64 n] w fun e w'=>∃ s',e=.returned (.string s')∧s'.data.toList=s.data.toList.take n∧w=w':=by
 by_cases h:n<s.size
 ·have hi:((n:Int)<(s.size:Int))=True:=eq_true (by omega)
  go_enter Try.func64,Try.ntmps64
  go_wp2
  go_ret
  exact ⟨s.extract 0 n,rfl,by simp [ByteArray.data_extract,Array.toList_extract,List.extract],rfl⟩
 ·have hi:((n:Int)<(s.size:Int))=False:=eq_false (by omega)
  have H:=Lib.hid h;clear h
  go_enter Try.func64,Try.ntmps64
  go_wp2
  go_ret
  exact ⟨s,rfl,by rw [List.take_of_length_le (by have:=H.out;exact Nat.le_of_not_lt this)],rfl⟩
end Go.Proofs.Ytdenmoiaiemokaa
set_option linter.unusedVariables false
set_option linter.unusedSimpArgs false
namespace Go.Proofs.Ytdenmoiaiemokaa
open Go.RowKit
end Go.Proofs.Ytdenmoiaiemokaa
set_option linter.unusedVariables false
set_option linter.unusedSimpArgs false
namespace Go.Proofs.Ytdenmoiaiemokaa
open Go.RowKit
end Go.Proofs.Ytdenmoiaiemokaa
set_option linter.unusedVariables false
set_option linter.unusedSimpArgs false
namespace Go.Proofs.Ytdenmoiaiemokaa
open Go.RowKit
end Go.Proofs.Ytdenmoiaiemokaa
set_option linter.unusedVariables false
set_option linter.unusedSimpArgs false
namespace Go.Proofs.Ytdenmoiaiemokaa
open Go.RowKit
def putL (bl:List Bool) (err:Int) (x:Nat) (n:Int):List Bool:=if err=0∧fitsN x n then bl++bitsOf x n.toNat else bl
def putE (err:Int) (x:Nat) (n:Int):Int:=if err=0∧¬ fitsN x n then 2 else err
theorem wput_c (wb B:Nat) (bl:List Bool) (err:Int) (x:Nat) (n:Int) (w:World) (h:WrIs w B wb bl err) (hx:x<18446744073709551616) (hi:-9223372036854775808≤n∧n≤9223372036854775807) (hl:bl.length≤549755813888):
  Calls Try.prog 143 #[.pointer (some ⟨wb,0,none⟩),.int .u64 x,.int .i64 n] w fun r w'=>r=.returned (.pointer (some ⟨wb,0,none⟩))∧WrIs w' B wb (putL bl err x n) (putE err x n)∧WrMod wb w w':=by
 by_cases h0:err=0
 ·subst h0
  by_cases hf:fitsN x n
  ·have hf':=hf
   obtain ⟨f1,f2,f3⟩:=hf
   obtain ⟨m,rfl⟩:=Int.eq_ofNat_of_zero_le f1
   rw [putL,putE,if_pos ⟨rfl,hf'⟩,if_neg (fun h=>h.2 hf'),Int.toNat_natCast]
   rw [Int.toNat_natCast] at f3
   exact put_ok wb B bl x m w h (by omega) f3 (by omega)
  ·rw [putL,putE,if_neg (fun h=>hf h.2),if_pos ⟨rfl,hf⟩]
   exact put_bad wb B bl x n w h hx hf hi
 ·rw [putL,putE,if_neg (fun h=>h0 h.1),if_neg (fun h=>h0 h.1)]
  refine (put_err wb B bl err x n w h h0).mono ?_
  rintro r w' ⟨h1,rfl⟩
  exact ⟨h1,h,WrMod.of_ext (Ext.refl w) h.lt⟩
end Go.Proofs.Ytdenmoiaiemokaa
set_option linter.unusedVariables false
set_option linter.unusedSimpArgs false
namespace Go.Proofs.Ytdenmoiaiemokaa
open Go.RowKit
def bb (b:Bool):UInt8:=if b then 1 else 0
def bbs (l:List Bool):List UInt8:=l.map bb
theorem bbs_length (l:List Bool):(bbs l).length=l.length:=by simp [bbs]
theorem bbs_append (l m:List Bool):bbs (l++m)=bbs l++bbs m:=List.map_append
end Go.Proofs.Ytdenmoiaiemokaa
