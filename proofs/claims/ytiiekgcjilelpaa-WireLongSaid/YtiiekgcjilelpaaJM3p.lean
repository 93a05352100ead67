/- JM2 JM3. -/
import Derived.Test.YtiiekgcjilelpaaJM1p
import Derived.IntWalk
import Derived.Laws.RangeAny
import Derived.Laws.RangeString
import Derived.Lib.OthersKept
import Derived.LoopTactic
set_option linter.unusedSimpArgs false
set_option linter.unusedVariables false
namespace Go.Proofs.Ytiiekgcjilelpaa
open Go.RowKit
namespace Mm
def hdC (l:List Code) (n:Nat):Code:=match l with
 |[]=>.skip
 |c::cs=>match n with|0=>c|n+1=>hdC cs n
def onlyM (id:Nat):List Code→List Code
 |[]=>[]
 |c::cs=>match eqb (idF c) id with|true=>c::onlyM id cs|false=>onlyM id cs
theorem onlyM_mem {c:Code} {id:Nat} {l:List Code} (h:c∈l) (he:eqb (idF c) id=true):c∈onlyM id l:=by
 induction l with
 |nil=>cases h
 |cons x xs ih=>
  simp only [onlyM]
  rcases List.mem_cons.1 h with rfl|h
  ·rw [he];exact List.mem_cons_self ..
  ·split
   ·exact List.mem_cons_of_mem _ (ih h)
   ·exact ih h
theorem lps1 {S:Sy Lab} {W0:World} {G:Nat→Prop} {sz id:Nat} {g:SSt Lab→Option (Tr Lab)} {b c:Code} (hc:onlyM id (fragsC b)=[.loop c]) (h:LoopSound S labI W0 G sz c g):LpsOk S labI W0 G [(id,g)] sz b:=fun c' hc' g' hg=>by
 simp only [lpGet] at hg
 split at hg
 ·rename_i he
  simp only [Option.some.injEq] at hg;subst hg
  have:=onlyM_mem hc' (id:=id) (by rw [eqb_eq] at he ⊢;exact he.symm)
  rw [hc] at this
  simp at this
  subst this
  exact h
 ·cases hg
def byteAt (s:ByteArray) (k:Nat):UInt8:=s.data.toList.getD k 0
def badB (x:UInt8):Bool:=decide ((x.toNat:Int)≤32)||decide ((x.toNat:Int)≥127)||(x.toNat:Int)==47
def goodsB (s:ByteArray):Bool:=s.data.toList.all fun x=>!badB x
def nameB (s:ByteArray):Bool:=goodsB s&&(decide ((s.size:Int)>0)&&decide ((s.size:Int)<17)&&(!(s.toList==(⟨#[46]⟩:ByteArray).toList))&&(!(s.toList==(⟨#[46,46]⟩:ByteArray).toList)))
theorem goods_bad {s:ByteArray} {k:Nat} (h:k<s.size) (hb:badB (byteAt s k)=true):goodsB s=false:=by
 unfold goodsB
 rw [List.all_eq_false]
 have hk:k<s.data.toList.length:=by simpa using h
 exact ⟨s.data.toList[k],List.getElem_mem hk,by simpa [byteAt,List.getD,List.getElem?_eq_getElem hk] using hb⟩
theorem goods_all {s:ByteArray} (h:∀ k,k<s.size→badB (byteAt s k)=false):goodsB s=true:=by
 unfold goodsB
 rw [List.all_eq_true]
 intro x hx
 obtain ⟨k,hk,rfl⟩:=List.getElem_of_mem hx
 have:=h k (by simpa using hk)
 simpa [byteAt,List.getD,List.getElem?_eq_getElem hk] using this
def oddB (x:Int):Bool:=decide (x<33)||decide (x>126)||x==47
set_option maxRecDepth 100000 in
theorem odd_c (x:Int) (w:World):Calls Try.prog 246 #[.int .i32 x] w fun e w'=>e=.returned (.bool (oddB x))∧Ext w w':=
 sym_b (S:=⟨Try.prog,[],[],noApp,labI.one,40⟩) (I:=labI) (L:=[]) (args:=[.one (.v (.int .i32 x))]) (us:=[.int .i32 x]) (e:=[]) (mem:=[]) (SyOk.mk' Try.mixed (FnsOk.nil) (EqsOk.nil)) Try.func246 (by kernel_rfl) (LpsOk.nil _) ⟨rfl,trivial⟩ (by kernel_rfl) (memOk_nil _ w) [] (by kernel_rfl) (by kernel_rfl) (by simp)
end Mm
namespace Mm
theorem iter_ext {W w:World} {k:Nat} {s:ByteArray} {pos:Nat} (h:Ext W w) (hk:W.heap.size≤k):Ext W (w.iterAt k s pos):=
 Mod.trans (G:=fun i=>i=k) h ⟨rfl,rfl,rfl,by simp [World.iterAt],fun i _ hn=>by
  show (w.heap.setIfInBounds k _)[i]? =_
  rw [Array.getElem?_setIfInBounds_ne (fun e=>hn e.symm)]⟩ (fun i hi hl=>by subst hi;omega)
theorem byteAt_get {s:ByteArray} {k:Nat} (h:k<s.size):byteAt s k=s[k]:=by
 have hk:k<s.data.toList.length:=by simpa using h
 simp [byteAt,List.getD,List.getElem?_eq_getElem hk,ByteArray.getElem_eq_getElem_data]
theorem odd_low (x:UInt8):oddB (x.toNat:Int)=badB x:=by
 rw [Bool.eq_iff_iff]
 simp [badB,oddB]
 omega
theorem odd_high {x:Nat} (h:128≤x):oddB (x:Int)=true:=by
 simp [oddB]
 omega
theorem odd_rune {s:ByteArray} {pos:Nat} (h:pos<s.size):oddB ((Utf8.decode s pos).1:Int)=badB (byteAt s pos)∧(badB (byteAt s pos)=false→(Utf8.decode s pos).2=1):=by
 rw [byteAt_get h]
 by_cases ha:s[pos].toNat<128
 ·rw [decode_ascii s pos h ha]
  exact ⟨odd_low _,fun _=>rfl⟩
 ·obtain ⟨h1,_⟩:=decode_high s pos h (by omega)
  have hb:badB s[pos]=true:=by simp [badB];omega
  rw [hb]
  exact ⟨odd_high h1,fun h=>by cases h⟩
theorem byteArray_len (s:ByteArray):s.toList.length=s.size:=by rw [ByteArray.toList_eq];simp
theorem iterPos_at {w:World} {k pos:Nat} {s:ByteArray} (h:w.heap[k]? =some (.stringIter s pos)):w.iterPos k=pos:=by simp [World.iterPos,h]
theorem iter_ext0 (w:World) (s:ByteArray) (pos:Nat):Ext w (w.iter s pos):=by
 exact (Ext.refl w).alloc _
set_option maxRecDepth 100000 in
set_option maxHeartbeats 1000000 in
theorem check_loop (s:ByteArray) (w:World) (h1:0<s.size) (h2:s.size≤16) (h3:(s.toList==[46])=false) (h4:(s.toList==[46,46])=false):
  Calls Try.prog 190 #[.string s] w fun e w'=>e=.returned (.int .i64 (cond (goodsB s) 0 9))∧Ext w w':=by
 have h5:s.toList.isEmpty=false:=by
  cases h:s.toList with
  |nil=>have:=byteArray_len s;rw [h] at this;simp at this;omega
  |cons a l=>rfl
 have h6:decide ((16:Int)<(s.size:Int))=false:=by simp;omega
 obtain ⟨R,hR⟩:∃ R,R=cond (goodsB s) (0:Int) 9:=⟨_,rfl⟩
 rw [← hR]
 have HR:=Lib.hid hR
 clear hR
 have H1:=Lib.hid h1
 clear h1
 go_enter Try.func190,Try.ntmps190
 go_wp2_with fail
 clear h3 h4 h5 h6
 obtain ⟨k0,hk0⟩:∃ k,k=w.heap.size:=⟨_,rfl⟩
 obtain ⟨w1,hw1⟩:∃ x,x=w.iter s 0:=⟨_,rfl⟩
 have HI:=Lib.hid (show w1.heap[k0]? =some (.stringIter s 0) by rw [hw1,hk0];exact blk_new w _)
 have HX:=Lib.hid (show Ext w w1 by rw [hw1];exact iter_ext0 w s 0)
 have HK:=Lib.hid (show w.heap.size≤k0 by rw [hk0];exact Nat.le_refl _)
 rw [← hw1,←hk0]
 clear hw1 hk0
 go_loopw [4] (fun _ w'=>∃ pos:Nat,Hid (w'.heap[k0]? =some (.stringIter s pos))∧Hid (Ext w w')∧Hid (∀ j,j<pos→badB (byteAt s j)=false)) (fun _ w'=>s.size - w'.iterPos k0)
 case atStart=>exact ⟨0,HI,HX,Lib.hid fun j hj=>absurd hj (by omega)⟩
 case round=>
  clear HI HX
  rename_i wr
  obtain ⟨pos,HI,HX,HJ⟩:=hrel
  by_cases hp:pos<s.size
  ·have hnx:∀ ty,(Instr.next (.pointer (some ⟨k0,0,none⟩)) true ty).run Try.prog wr=_:=fun ty=>Lib.run_next_any_at wr k0 s pos ty HI.out hp
   have HO:=Lib.hid (odd_rune hp)
   have HI2:=Lib.hid (Lib.iterAt_heap wr k0 s pos (pos+(Utf8.decode s pos).2) HI.out)
   have HX2:=Lib.hid (iter_ext (pos:=pos+(Utf8.decode s pos).2) HX.out HK.out:Ext w (wr.iterAt k0 s (pos+(Utf8.decode s pos).2)))
   have HM:=Lib.hid (iterPos_at HI.out)
   go_wp2_with fail
   refine (odd_c _ _).mono ?_
   rintro r w3 ⟨rfl,hx3⟩
   have HX3:=Lib.hid (HX2.out.trans hx3)
   have HI3:=Lib.hid ((hx3.block k0 (Array.getElem?_eq_some_iff.1 HI2.out).1 id).trans HI2.out)
   clear hx3 hnx
   cases hb:badB (byteAt s pos) with
   |true=>
    have ho:oddB ((Utf8.decode s pos).1:Int)=true:=HO.out.1.trans hb
    have hg:R=9:=by rw [HR.out,goods_bad hp hb];rfl
    go_wp2_with fail
    go_ret
    exact ⟨by rw [hg];rfl,HX3.out⟩
   |false=>
    have ho:oddB ((Utf8.decode s pos).1:Int)=false:=HO.out.1.trans hb
    have HW:=Lib.hid (HO.out.2 hb)
    have HB:=Lib.hid hb
    clear hb
    go_wp2_with fail
    go_roundw
    case rel=>
     refine ⟨pos+1,by rw [HW.out] at HI3;exact HI3,HX3,Lib.hid fun j hj=>?_⟩
     rcases Nat.lt_succ_iff_lt_or_eq.1 hj with h|rfl
     ·exact HJ.out j h
     ·exact HB.out
    case measure=>
     have h1:=iterPos_at HI3.out
     have h2:=HM.out
     have h3:=HW.out
     omega
  ·have hnx:∀ ty,(Instr.next (.pointer (some ⟨k0,0,none⟩)) true ty).run Try.prog wr=_:=fun ty=>Lib.run_next_end_at wr k0 s pos ty HI.out hp
   have hg:R=0:=by rw [HR.out,goods_all fun j hj=>HJ.out j (by omega)];rfl
   go_wp2_with fail
   go_ret
   exact ⟨by rw [hg];rfl,HX.out⟩
set_option maxRecDepth 100000 in
set_option maxHeartbeats 1000000 in
theorem check_c (s:ByteArray) (w:World):Calls Try.prog 190 #[.string s] w fun e w'=>e=.returned (.int .i64 (cond (nameB s) 0 9))∧Ext w w':=by
 have e1:(⟨#[46]⟩:ByteArray).toList=[46]:=by rw [ByteArray.toList_eq]
 have e2:(⟨#[46,46]⟩:ByteArray).toList=[46,46]:=by rw [ByteArray.toList_eq]
 by_cases h1:0<s.size
 ·by_cases h2:s.size≤16
  ·cases h3:s.toList==[46] with
   |true=>
    have hn:nameB s=false:=by unfold nameB;rw [e1,h3];simp
    have h5:s.toList.isEmpty=false:=by rw [eq_of_beq h3];rfl
    have h6:decide ((16:Int)<(s.size:Int))=false:=by simp;omega
    rw [hn]
    clear hn e1 e2
    go_enter Try.func190,Try.ntmps190
    go_wp2_with fail
    go_ret
    exact ⟨rfl,Ext.refl w⟩
   |false=>
    cases h4:s.toList==[46,46] with
    |true=>
     have hn:nameB s=false:=by unfold nameB;rw [e2,h4];simp
     have h5:s.toList.isEmpty=false:=by rw [eq_of_beq h4];rfl
     have h6:decide ((16:Int)<(s.size:Int))=false:=by simp;omega
     rw [hn]
     clear hn e1 e2
     go_enter Try.func190,Try.ntmps190
     go_wp2_with fail
     go_ret
     exact ⟨rfl,Ext.refl w⟩
    |false=>
     have hn:nameB s=goodsB s:=by
      unfold nameB;rw [e1,e2,h3,h4]
      have a1:decide ((s.size:Int)>0)=true:=by simp;omega
      have a2:decide ((s.size:Int)<17)=true:=by simp;omega
      rw [a1,a2];simp
     rw [hn]
     exact check_loop s w h1 h2 h3 h4
  ·have hn:nameB s=false:=by
    unfold nameB
    have a2:decide ((s.size:Int)<17)=false:=by simp;omega
    rw [a2];simp
   have h6:decide ((16:Int)<(s.size:Int))=true:=by simp;omega
   have h5:s.toList.isEmpty=false:=by
    cases h:s.toList with
    |nil=>have:=byteArray_len s;rw [h] at this;simp at this;omega
    |cons a l=>rfl
   rw [hn]
   clear hn e1 e2
   go_enter Try.func190,Try.ntmps190
   go_wp2_with fail
   go_ret
   exact ⟨rfl,Ext.refl w⟩
 ·have hn:nameB s=false:=by
   unfold nameB
   have a1:decide ((s.size:Int)>0)=false:=decide_eq_false (by omega)
   rw [a1];simp
  have h5:s.toList=[]:=by
   have:=byteArray_len s
   exact List.eq_nil_of_length_eq_zero (by rw [byteArray_len s];omega)
  have h6:s.toList.isEmpty=true:=by rw [h5];rfl
  rw [hn]
  clear hn e1 e2
  go_enter Try.func190,Try.ntmps190
  go_wp2_with fail
  go_ret
  exact ⟨rfl,Ext.refl w⟩
def F_check:Nat×Fn2 Lab:=(190,fun us mem=>match us with|[.one a0]=>(match valP a0 with|some (.string s)=>some ([],svV (.int .i64 (cond (nameB s) 0 9)),none)|_=>none)|_=>none)
theorem F_check_ok {W0:World} {G:Nat→Prop} {F:Fns Lab} (ht:FnsOk Try.prog labI W0 G F):FnsOk Try.prog labI W0 G (F_check::F):=
 FnsOk.cons Try.call190 (fun args mem ps r mo h hp w e us hM ha=>by
  repeat' split at h
  all_goals first
   |(cases h;done)
   |skip
  simp only [Option.some.injEq,Prod.mk.injEq] at h
  obtain ⟨rfl,rfl,rfl⟩:=h
  simp only [allC_cons,allC_nil] at ha
  obtain ⟨u0,t0,rfl,hc0,rfl⟩:=ha
  obtain rfl:=valP_is (by assumption) (show PV.is e _ _ from hc0)
  refine (check_c _ w ).mono fun x w' ⟨h1,h2⟩=>⟨_,h1,rfl,h2⟩
  all_goals skip) ht
end Mm
end Go.Proofs.Ytiiekgcjilelpaa
