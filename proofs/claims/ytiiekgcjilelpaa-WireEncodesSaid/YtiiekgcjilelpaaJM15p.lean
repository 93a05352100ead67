/- JM14 JM15. -/
import Derived.Test.YtiiekgcjilelpaaJM13p
set_option linter.unusedSimpArgs false
set_option linter.unusedVariables false
namespace Go.Proofs.Ytiiekgcjilelpaa
open Go.RowKit
namespace Mm
def yup:List (List UInt8):=[[],[],[],[100,110],[100,110,107],[100,110],[100,110,102,111],[100],[102,107],[102,97],[102,97,116],[102],[102],[102,107],[]]
def toldT:List (List UInt8):=[[],[],[],[102,107],[102],[],[],[101],[118],[116,118],[118],[118],[],[118],[]]
def fieldsS (r:Bool) (k:Int):ByteArray:=⟨((cond r toldT yup).getD k.toNat []).toArray⟩
set_option maxHeartbeats 400000 in
theorem fields_t1 (w:World):Calls Try.prog 221 #[.bool true,.int .i64 1] w fun e w'=>e=.returned (.string (fieldsS true 1))∧Ext w w':=by
 go_enter Try.func221,Try.ntmps221
 go_wp2
 go_ret
 exact ⟨rfl,((Ext.refl w).alloc _).alloc _⟩
set_option maxHeartbeats 400000 in
theorem fields_t2 (w:World):Calls Try.prog 221 #[.bool true,.int .i64 2] w fun e w'=>e=.returned (.string (fieldsS true 2))∧Ext w w':=by
 go_enter Try.func221,Try.ntmps221
 go_wp2
 go_ret
 exact ⟨rfl,((Ext.refl w).alloc _).alloc _⟩
set_option maxHeartbeats 400000 in
theorem fields_t3 (w:World):Calls Try.prog 221 #[.bool true,.int .i64 3] w fun e w'=>e=.returned (.string (fieldsS true 3))∧Ext w w':=by
 go_enter Try.func221,Try.ntmps221
 go_wp2
 go_ret
 exact ⟨rfl,((Ext.refl w).alloc _).alloc _⟩
set_option maxHeartbeats 400000 in
theorem fields_t4 (w:World):Calls Try.prog 221 #[.bool true,.int .i64 4] w fun e w'=>e=.returned (.string (fieldsS true 4))∧Ext w w':=by
 go_enter Try.func221,Try.ntmps221
 go_wp2
 go_ret
 exact ⟨rfl,((Ext.refl w).alloc _).alloc _⟩
set_option maxHeartbeats 400000 in
theorem fields_t5 (w:World):Calls Try.prog 221 #[.bool true,.int .i64 5] w fun e w'=>e=.returned (.string (fieldsS true 5))∧Ext w w':=by
 go_enter Try.func221,Try.ntmps221
 go_wp2
 go_ret
 exact ⟨rfl,((Ext.refl w).alloc _).alloc _⟩
set_option maxHeartbeats 400000 in
theorem fields_t6 (w:World):Calls Try.prog 221 #[.bool true,.int .i64 6] w fun e w'=>e=.returned (.string (fieldsS true 6))∧Ext w w':=by
 go_enter Try.func221,Try.ntmps221
 go_wp2
 go_ret
 exact ⟨rfl,((Ext.refl w).alloc _).alloc _⟩
set_option maxHeartbeats 400000 in
theorem fields_t7 (w:World):Calls Try.prog 221 #[.bool true,.int .i64 7] w fun e w'=>e=.returned (.string (fieldsS true 7))∧Ext w w':=by
 go_enter Try.func221,Try.ntmps221
 go_wp2
 go_ret
 exact ⟨rfl,((Ext.refl w).alloc _).alloc _⟩
set_option maxHeartbeats 400000 in
theorem fields_t8 (w:World):Calls Try.prog 221 #[.bool true,.int .i64 8] w fun e w'=>e=.returned (.string (fieldsS true 8))∧Ext w w':=by
 go_enter Try.func221,Try.ntmps221
 go_wp2
 go_ret
 exact ⟨rfl,((Ext.refl w).alloc _).alloc _⟩
set_option maxHeartbeats 400000 in
theorem fields_t9 (w:World):Calls Try.prog 221 #[.bool true,.int .i64 9] w fun e w'=>e=.returned (.string (fieldsS true 9))∧Ext w w':=by
 go_enter Try.func221,Try.ntmps221
 go_wp2
 go_ret
 exact ⟨rfl,((Ext.refl w).alloc _).alloc _⟩
set_option maxHeartbeats 400000 in
theorem ywf (w:World):Calls Try.prog 221 #[.bool true,.int .i64 10] w fun e w'=>e=.returned (.string (fieldsS true 10))∧Ext w w':=by
 go_enter Try.func221,Try.ntmps221
 go_wp2
 go_ret
 exact ⟨rfl,((Ext.refl w).alloc _).alloc _⟩
set_option maxHeartbeats 400000 in
theorem ywe (w:World):Calls Try.prog 221 #[.bool true,.int .i64 11] w fun e w'=>e=.returned (.string (fieldsS true 11))∧Ext w w':=by
 go_enter Try.func221,Try.ntmps221
 go_wp2
 go_ret
 exact ⟨rfl,((Ext.refl w).alloc _).alloc _⟩
set_option maxHeartbeats 400000 in
theorem ywd (w:World):Calls Try.prog 221 #[.bool true,.int .i64 12] w fun e w'=>e=.returned (.string (fieldsS true 12))∧Ext w w':=by
 go_enter Try.func221,Try.ntmps221
 go_wp2
 go_ret
 exact ⟨rfl,((Ext.refl w).alloc _).alloc _⟩
set_option maxHeartbeats 400000 in
theorem ywc (w:World):Calls Try.prog 221 #[.bool true,.int .i64 13] w fun e w'=>e=.returned (.string (fieldsS true 13))∧Ext w w':=by
 go_enter Try.func221,Try.ntmps221
 go_wp2
 go_ret
 exact ⟨rfl,((Ext.refl w).alloc _).alloc _⟩
set_option maxHeartbeats 400000 in
theorem ywb (w:World):Calls Try.prog 221 #[.bool true,.int .i64 14] w fun e w'=>e=.returned (.string (fieldsS true 14))∧Ext w w':=by
 go_enter Try.func221,Try.ntmps221
 go_wp2
 go_ret
 exact ⟨rfl,((Ext.refl w).alloc _).alloc _⟩
set_option maxHeartbeats 400000 in
theorem fields_f1 (w:World):Calls Try.prog 221 #[.bool false,.int .i64 1] w fun e w'=>e=.returned (.string (fieldsS false 1))∧Ext w w':=by
 go_enter Try.func221,Try.ntmps221
 go_wp2
 go_ret
 exact ⟨rfl,((Ext.refl w).alloc _).alloc _⟩
set_option maxHeartbeats 400000 in
theorem fields_f2 (w:World):Calls Try.prog 221 #[.bool false,.int .i64 2] w fun e w'=>e=.returned (.string (fieldsS false 2))∧Ext w w':=by
 go_enter Try.func221,Try.ntmps221
 go_wp2
 go_ret
 exact ⟨rfl,((Ext.refl w).alloc _).alloc _⟩
set_option maxHeartbeats 400000 in
theorem fields_f3 (w:World):Calls Try.prog 221 #[.bool false,.int .i64 3] w fun e w'=>e=.returned (.string (fieldsS false 3))∧Ext w w':=by
 go_enter Try.func221,Try.ntmps221
 go_wp2
 go_ret
 exact ⟨rfl,((Ext.refl w).alloc _).alloc _⟩
set_option maxHeartbeats 400000 in
theorem fields_f4 (w:World):Calls Try.prog 221 #[.bool false,.int .i64 4] w fun e w'=>e=.returned (.string (fieldsS false 4))∧Ext w w':=by
 go_enter Try.func221,Try.ntmps221
 go_wp2
 go_ret
 exact ⟨rfl,((Ext.refl w).alloc _).alloc _⟩
set_option maxHeartbeats 400000 in
theorem fields_f5 (w:World):Calls Try.prog 221 #[.bool false,.int .i64 5] w fun e w'=>e=.returned (.string (fieldsS false 5))∧Ext w w':=by
 go_enter Try.func221,Try.ntmps221
 go_wp2
 go_ret
 exact ⟨rfl,((Ext.refl w).alloc _).alloc _⟩
set_option maxHeartbeats 400000 in
theorem fields_f6 (w:World):Calls Try.prog 221 #[.bool false,.int .i64 6] w fun e w'=>e=.returned (.string (fieldsS false 6))∧Ext w w':=by
 go_enter Try.func221,Try.ntmps221
 go_wp2
 go_ret
 exact ⟨rfl,((Ext.refl w).alloc _).alloc _⟩
set_option maxHeartbeats 400000 in
theorem fields_f7 (w:World):Calls Try.prog 221 #[.bool false,.int .i64 7] w fun e w'=>e=.returned (.string (fieldsS false 7))∧Ext w w':=by
 go_enter Try.func221,Try.ntmps221
 go_wp2
 go_ret
 exact ⟨rfl,((Ext.refl w).alloc _).alloc _⟩
set_option maxHeartbeats 400000 in
theorem fields_f8 (w:World):Calls Try.prog 221 #[.bool false,.int .i64 8] w fun e w'=>e=.returned (.string (fieldsS false 8))∧Ext w w':=by
 go_enter Try.func221,Try.ntmps221
 go_wp2
 go_ret
 exact ⟨rfl,((Ext.refl w).alloc _).alloc _⟩
set_option maxHeartbeats 400000 in
theorem fields_f9 (w:World):Calls Try.prog 221 #[.bool false,.int .i64 9] w fun e w'=>e=.returned (.string (fieldsS false 9))∧Ext w w':=by
 go_enter Try.func221,Try.ntmps221
 go_wp2
 go_ret
 exact ⟨rfl,((Ext.refl w).alloc _).alloc _⟩
set_option maxHeartbeats 400000 in
theorem ywk (w:World):Calls Try.prog 221 #[.bool false,.int .i64 10] w fun e w'=>e=.returned (.string (fieldsS false 10))∧Ext w w':=by
 go_enter Try.func221,Try.ntmps221
 go_wp2
 go_ret
 exact ⟨rfl,((Ext.refl w).alloc _).alloc _⟩
set_option maxHeartbeats 400000 in
theorem ywj (w:World):Calls Try.prog 221 #[.bool false,.int .i64 11] w fun e w'=>e=.returned (.string (fieldsS false 11))∧Ext w w':=by
 go_enter Try.func221,Try.ntmps221
 go_wp2
 go_ret
 exact ⟨rfl,((Ext.refl w).alloc _).alloc _⟩
set_option maxHeartbeats 400000 in
theorem ywi (w:World):Calls Try.prog 221 #[.bool false,.int .i64 12] w fun e w'=>e=.returned (.string (fieldsS false 12))∧Ext w w':=by
 go_enter Try.func221,Try.ntmps221
 go_wp2
 go_ret
 exact ⟨rfl,((Ext.refl w).alloc _).alloc _⟩
set_option maxHeartbeats 400000 in
theorem ywh (w:World):Calls Try.prog 221 #[.bool false,.int .i64 13] w fun e w'=>e=.returned (.string (fieldsS false 13))∧Ext w w':=by
 go_enter Try.func221,Try.ntmps221
 go_wp2
 go_ret
 exact ⟨rfl,((Ext.refl w).alloc _).alloc _⟩
set_option maxHeartbeats 400000 in
theorem ywg (w:World):Calls Try.prog 221 #[.bool false,.int .i64 14] w fun e w'=>e=.returned (.string (fieldsS false 14))∧Ext w w':=by
 go_enter Try.func221,Try.ntmps221
 go_wp2
 go_ret
 exact ⟨rfl,((Ext.refl w).alloc _).alloc _⟩
theorem fields_c (r:Bool) (kd:Int) (w:World) (h:1≤kd∧kd≤14):Calls Try.prog 221 #[.bool r,.int .i64 kd] w fun e w'=>e=.returned (.string (fieldsS r kd))∧Ext w w':=by
 have hk:kd=1∨kd=2∨kd=3∨kd=4∨kd=5∨kd=6∨kd=7∨kd=8∨kd=9∨kd=10∨kd=11∨kd=12∨kd=13∨kd=14:=by omega
 cases r
 all_goals rcases hk with rfl|rfl|rfl|rfl|rfl|rfl|rfl|rfl|rfl|rfl|rfl|rfl|rfl|rfl
 ·exact fields_f1 w
 ·exact fields_f2 w
 ·exact fields_f3 w
 ·exact fields_f4 w
 ·exact fields_f5 w
 ·exact fields_f6 w
 ·exact fields_f7 w
 ·exact fields_f8 w
 ·exact fields_f9 w
 ·exact ywk w
 ·exact ywj w
 ·exact ywi w
 ·exact ywh w
 ·exact ywg w
 ·exact fields_t1 w
 ·exact fields_t2 w
 ·exact fields_t3 w
 ·exact fields_t4 w
 ·exact fields_t5 w
 ·exact fields_t6 w
 ·exact fields_t7 w
 ·exact fields_t8 w
 ·exact fields_t9 w
 ·exact ywf w
 ·exact ywe w
 ·exact ywd w
 ·exact ywc w
 ·exact ywb w
def yu6:Nat×Fn2 Lab:=(221,fun us mem=>match us with|[.one a0,.one a1]=>(match valP a0 with|some (.bool r)=>(match valP a1 with|some (.int .i64 kd)=>some ([1≤kd∧kd≤14],svV (.string (fieldsS r kd)),none)|_=>none)|_=>none)|_=>none)
theorem ys8 {W0:World} {G:Nat→Prop} {F:Fns Lab} (ht:FnsOk Try.prog labI W0 G F):FnsOk Try.prog labI W0 G (yu6::F):=
 FnsOk.cons Try.call221 (fun args mem ps r mo h hp w e us hM ha=>by
  repeat' split at h
  all_goals first
   |(cases h;done)
   |skip
  simp only [Option.some.injEq,Prod.mk.injEq] at h
  obtain ⟨rfl,rfl,rfl⟩:=h
  simp only [yba,ybk] at ha
  obtain ⟨u0,t0,rfl,hc0,u1,t1,rfl,hc1,rfl⟩:=ha
  obtain rfl:=yad (by assumption) (show PV.is e _ _ from hc0)
  obtain rfl:=yad (by assumption) (show PV.is e _ _ from hc1)
  refine (fields_c _ _ w  ?_).mono fun x w' ⟨h1,h2⟩=>⟨_,h1,rfl,h2⟩
  all_goals first
   |(exact yls hM (by assumption) (by assumption) (hp _ (by simp)))
   |(exact hp _ (by simp))) ht
end Mm
namespace Mm
def fS:ByteArray:=⟨#[102]⟩
def noneS:ByteArray:=⟨#[]⟩
def i1 (m:Msg):Bool:=decide (m.cl<0)||decide (m.cl>7)||!rcountB m.ss
def i2 (m:Msg):Bool:=m.sq==0&&rcountB m.bo&&m.kd==0&&m.er==0
def i3 (m:Msg):Bool:=!rcountB m.sq||decide (m.kd<1)||decide (m.kd>14)||decide (m.ty<1)||decide (m.ty>2)
def i4 (m:Msg):Bool:=m.er==0&&((m.kd==1&&m.bo==0)||(m.kd != 1&&rcountB m.bo))
def i5 (m:Msg):Bool:=decide (m.er<0)||decide (m.er>25)||!rcountB m.bo
def isR (m:Msg):Bool:=cond (i1 m) false (cond (m.ty==3) (i2 m&&justB m fS) (cond (i3 m) false (cond (m.ty==1) (i4 m&&justB m (fieldsS false m.kd)) (cond (i5 m) false (cond (m.er != 0) (justB m noneS) (justB m (fieldsS true m.kd)))))))
theorem i3_kd {m:Msg} (h:i3 m=false):1≤m.kd∧m.kd≤14:=by
 simp only [i3,Bool.or_eq_false_iff,decide_eq_false_iff_not] at h
 omega
theorem fieldsS_size (r:Bool) (k:Int):(fieldsS r k).size≤9223372036854775807:=by
 show ((cond r toldT yup).getD k.toNat []).toArray.size≤_
 rw [List.size_toArray]
 have h:∀ x∈(cond r toldT yup),x.length≤4:=by cases r<;>decide
 rw [List.getD_eq_getElem?_getD]
 by_cases hk:k.toNat<(cond r toldT yup).length
 ·rw [List.getElem?_eq_getElem hk]
  exact Nat.le_trans (h _ (List.getElem_mem hk)) (by decide)
 ·rw [List.getElem?_eq_none (by omega)];exact Nat.zero_le _
set_option maxRecDepth 100000 in
theorem isr_c (ty cl ss sq bo kd er f1 f2 d1 d2:Int) (nm ot:ByteArray) (mo pl:Int) (da:ByteArray) (ve:Int) (en:List Ent) (v:Value) (w:World) (hv:Es w v en) (hnm:nm.size≤9223372036854775807) (hot:ot.size≤9223372036854775807) (hz:Szs en):Calls Try.prog 142 #[.agg #[.int .i64 ty,.int .i64 cl,.int .u64 ss,.int .u64 sq,.int .u64 bo,.int .i64 kd,.int .i64 er,.int .i64 f1,.int .i64 f2,.int .i64 d1,.int .i64 d2,.string nm,.string ot,.int .i64 mo,.int .i64 pl,.string da,.int .u64 ve,v]] w fun e w'=>e=.returned (.bool (isR (⟨ty,cl,ss,sq,bo,kd,er,f1,f2,d1,d2,nm,ot,mo,pl,da,ve,en⟩:Msg)))∧Ext w w':=
 yep (S:=⟨Try.prog,[yuz,yu6,F_just],[],yck,labI.one,40⟩) (I:=labI) (L:=[]) (args:=[.agg [.v (.int .i64 ty),.v (.int .i64 cl),.v (.int .u64 ss),.v (.int .u64 sq),.v (.int .u64 bo),.v (.int .i64 kd),.v (.int .i64 er),.v (.int .i64 f1),.v (.int .i64 f2),.v (.int .i64 d1),.v (.int .i64 d2),.v (.string nm),.v (.string ot),.v (.int .i64 mo),.v (.int .i64 pl),.v (.string da),.v (.int .u64 ve),.obj 0]]) (us:=[.agg #[.int .i64 ty,.int .i64 cl,.int .u64 ss,.int .u64 sq,.int .u64 bo,.int .i64 kd,.int .i64 er,.int .i64 f1,.int .i64 f2,.int .i64 d1,.int .i64 d2,.string nm,.string ot,.int .i64 mo,.int .i64 pl,.string da,.int .u64 ve,v]]) (e:=[v]) (mem:=[enS en]) (SyOk.mk' Try.mixed (ys5 (ys8 (F_just_ok (FnsOk.nil)))) (EqsOk.nil)) Try.func142 (by kernel_rfl) (LpsOk.nil _) ⟨⟨[.int .i64 ty,.int .i64 cl,.int .u64 ss,.int .u64 sq,.int .u64 bo,.int .i64 kd,.int .i64 er,.int .i64 f1,.int .i64 f2,.int .i64 d1,.int .i64 d2,.string nm,.string ot,.int .i64 mo,.int .i64 pl,.string da,.int .u64 ve,v],⟨rfl,rfl,rfl,rfl,rfl,rfl,rfl,rfl,rfl,rfl,rfl,rfl,rfl,rfl,rfl,rfl,rfl,rfl,trivial⟩,rfl⟩,trivial⟩ (by kernel_rfl) (yd0 hv) [i1 (⟨ty,cl,ss,sq,bo,kd,er,f1,f2,d1,d2,nm,ot,mo,pl,da,ve,en⟩:Msg)=false→(ty==3)=true→(i2 (⟨ty,cl,ss,sq,bo,kd,er,f1,f2,d1,d2,nm,ot,mo,pl,da,ve,en⟩:Msg)&&true)=true→entKS en=entKS en,i1 (⟨ty,cl,ss,sq,bo,kd,er,f1,f2,d1,d2,nm,ot,mo,pl,da,ve,en⟩:Msg)=false→(ty==3)=true→(i2 (⟨ty,cl,ss,sq,bo,kd,er,f1,f2,d1,d2,nm,ot,mo,pl,da,ve,en⟩:Msg)&&true)=true→fS.size≤9223372036854775807,i1 (⟨ty,cl,ss,sq,bo,kd,er,f1,f2,d1,d2,nm,ot,mo,pl,da,ve,en⟩:Msg)=false→(ty==3)=true→(i2 (⟨ty,cl,ss,sq,bo,kd,er,f1,f2,d1,d2,nm,ot,mo,pl,da,ve,en⟩:Msg)&&true)=true→nm.size≤9223372036854775807,i1 (⟨ty,cl,ss,sq,bo,kd,er,f1,f2,d1,d2,nm,ot,mo,pl,da,ve,en⟩:Msg)=false→(ty==3)=true→(i2 (⟨ty,cl,ss,sq,bo,kd,er,f1,f2,d1,d2,nm,ot,mo,pl,da,ve,en⟩:Msg)&&true)=true→ot.size≤9223372036854775807,i1 (⟨ty,cl,ss,sq,bo,kd,er,f1,f2,d1,d2,nm,ot,mo,pl,da,ve,en⟩:Msg)=false→(ty==3)=true→(i2 (⟨ty,cl,ss,sq,bo,kd,er,f1,f2,d1,d2,nm,ot,mo,pl,da,ve,en⟩:Msg)&&true)=true→Szs en,i1 (⟨ty,cl,ss,sq,bo,kd,er,f1,f2,d1,d2,nm,ot,mo,pl,da,ve,en⟩:Msg)=false→(ty==3)=false→i3 (⟨ty,cl,ss,sq,bo,kd,er,f1,f2,d1,d2,nm,ot,mo,pl,da,ve,en⟩:Msg)=false→(ty==1)=true→(i4 (⟨ty,cl,ss,sq,bo,kd,er,f1,f2,d1,d2,nm,ot,mo,pl,da,ve,en⟩:Msg)&&true)=true→entKS en=entKS en,i1 (⟨ty,cl,ss,sq,bo,kd,er,f1,f2,d1,d2,nm,ot,mo,pl,da,ve,en⟩:Msg)=false→(ty==3)=false→i3 (⟨ty,cl,ss,sq,bo,kd,er,f1,f2,d1,d2,nm,ot,mo,pl,da,ve,en⟩:Msg)=false→(ty==1)=true→(i4 (⟨ty,cl,ss,sq,bo,kd,er,f1,f2,d1,d2,nm,ot,mo,pl,da,ve,en⟩:Msg)&&true)=true→(fieldsS false kd).size≤9223372036854775807,i1 (⟨ty,cl,ss,sq,bo,kd,er,f1,f2,d1,d2,nm,ot,mo,pl,da,ve,en⟩:Msg)=false→(ty==3)=false→i3 (⟨ty,cl,ss,sq,bo,kd,er,f1,f2,d1,d2,nm,ot,mo,pl,da,ve,en⟩:Msg)=false→(ty==1)=true→(i4 (⟨ty,cl,ss,sq,bo,kd,er,f1,f2,d1,d2,nm,ot,mo,pl,da,ve,en⟩:Msg)&&true)=true→nm.size≤9223372036854775807,i1 (⟨ty,cl,ss,sq,bo,kd,er,f1,f2,d1,d2,nm,ot,mo,pl,da,ve,en⟩:Msg)=false→(ty==3)=false→i3 (⟨ty,cl,ss,sq,bo,kd,er,f1,f2,d1,d2,nm,ot,mo,pl,da,ve,en⟩:Msg)=false→(ty==1)=true→(i4 (⟨ty,cl,ss,sq,bo,kd,er,f1,f2,d1,d2,nm,ot,mo,pl,da,ve,en⟩:Msg)&&true)=true→ot.size≤9223372036854775807,i1 (⟨ty,cl,ss,sq,bo,kd,er,f1,f2,d1,d2,nm,ot,mo,pl,da,ve,en⟩:Msg)=false→(ty==3)=false→i3 (⟨ty,cl,ss,sq,bo,kd,er,f1,f2,d1,d2,nm,ot,mo,pl,da,ve,en⟩:Msg)=false→(ty==1)=true→(i4 (⟨ty,cl,ss,sq,bo,kd,er,f1,f2,d1,d2,nm,ot,mo,pl,da,ve,en⟩:Msg)&&true)=true→Szs en,i1 (⟨ty,cl,ss,sq,bo,kd,er,f1,f2,d1,d2,nm,ot,mo,pl,da,ve,en⟩:Msg)=false→(ty==3)=false→i3 (⟨ty,cl,ss,sq,bo,kd,er,f1,f2,d1,d2,nm,ot,mo,pl,da,ve,en⟩:Msg)=false→(ty==1)=true→(i4 (⟨ty,cl,ss,sq,bo,kd,er,f1,f2,d1,d2,nm,ot,mo,pl,da,ve,en⟩:Msg)&&true)=true→1≤kd∧kd≤14,i1 (⟨ty,cl,ss,sq,bo,kd,er,f1,f2,d1,d2,nm,ot,mo,pl,da,ve,en⟩:Msg)=false→(ty==3)=false→i3 (⟨ty,cl,ss,sq,bo,kd,er,f1,f2,d1,d2,nm,ot,mo,pl,da,ve,en⟩:Msg)=false→(ty==1)=false→i5 (⟨ty,cl,ss,sq,bo,kd,er,f1,f2,d1,d2,nm,ot,mo,pl,da,ve,en⟩:Msg)=false→(er != 0)=true→entKS en=entKS en,i1 (⟨ty,cl,ss,sq,bo,kd,er,f1,f2,d1,d2,nm,ot,mo,pl,da,ve,en⟩:Msg)=false→(ty==3)=false→i3 (⟨ty,cl,ss,sq,bo,kd,er,f1,f2,d1,d2,nm,ot,mo,pl,da,ve,en⟩:Msg)=false→(ty==1)=false→i5 (⟨ty,cl,ss,sq,bo,kd,er,f1,f2,d1,d2,nm,ot,mo,pl,da,ve,en⟩:Msg)=false→(er != 0)=true→noneS.size≤9223372036854775807,i1 (⟨ty,cl,ss,sq,bo,kd,er,f1,f2,d1,d2,nm,ot,mo,pl,da,ve,en⟩:Msg)=false→(ty==3)=false→i3 (⟨ty,cl,ss,sq,bo,kd,er,f1,f2,d1,d2,nm,ot,mo,pl,da,ve,en⟩:Msg)=false→(ty==1)=false→i5 (⟨ty,cl,ss,sq,bo,kd,er,f1,f2,d1,d2,nm,ot,mo,pl,da,ve,en⟩:Msg)=false→(er != 0)=true→nm.size≤9223372036854775807,i1 (⟨ty,cl,ss,sq,bo,kd,er,f1,f2,d1,d2,nm,ot,mo,pl,da,ve,en⟩:Msg)=false→(ty==3)=false→i3 (⟨ty,cl,ss,sq,bo,kd,er,f1,f2,d1,d2,nm,ot,mo,pl,da,ve,en⟩:Msg)=false→(ty==1)=false→i5 (⟨ty,cl,ss,sq,bo,kd,er,f1,f2,d1,d2,nm,ot,mo,pl,da,ve,en⟩:Msg)=false→(er != 0)=true→ot.size≤9223372036854775807,i1 (⟨ty,cl,ss,sq,bo,kd,er,f1,f2,d1,d2,nm,ot,mo,pl,da,ve,en⟩:Msg)=false→(ty==3)=false→i3 (⟨ty,cl,ss,sq,bo,kd,er,f1,f2,d1,d2,nm,ot,mo,pl,da,ve,en⟩:Msg)=false→(ty==1)=false→i5 (⟨ty,cl,ss,sq,bo,kd,er,f1,f2,d1,d2,nm,ot,mo,pl,da,ve,en⟩:Msg)=false→(er != 0)=true→Szs en,i1 (⟨ty,cl,ss,sq,bo,kd,er,f1,f2,d1,d2,nm,ot,mo,pl,da,ve,en⟩:Msg)=false→(ty==3)=false→i3 (⟨ty,cl,ss,sq,bo,kd,er,f1,f2,d1,d2,nm,ot,mo,pl,da,ve,en⟩:Msg)=false→(ty==1)=false→i5 (⟨ty,cl,ss,sq,bo,kd,er,f1,f2,d1,d2,nm,ot,mo,pl,da,ve,en⟩:Msg)=false→(er != 0)=false→entKS en=entKS en,i1 (⟨ty,cl,ss,sq,bo,kd,er,f1,f2,d1,d2,nm,ot,mo,pl,da,ve,en⟩:Msg)=false→(ty==3)=false→i3 (⟨ty,cl,ss,sq,bo,kd,er,f1,f2,d1,d2,nm,ot,mo,pl,da,ve,en⟩:Msg)=false→(ty==1)=false→i5 (⟨ty,cl,ss,sq,bo,kd,er,f1,f2,d1,d2,nm,ot,mo,pl,da,ve,en⟩:Msg)=false→(er != 0)=false→(fieldsS true kd).size≤9223372036854775807,i1 (⟨ty,cl,ss,sq,bo,kd,er,f1,f2,d1,d2,nm,ot,mo,pl,da,ve,en⟩:Msg)=false→(ty==3)=false→i3 (⟨ty,cl,ss,sq,bo,kd,er,f1,f2,d1,d2,nm,ot,mo,pl,da,ve,en⟩:Msg)=false→(ty==1)=false→i5 (⟨ty,cl,ss,sq,bo,kd,er,f1,f2,d1,d2,nm,ot,mo,pl,da,ve,en⟩:Msg)=false→(er != 0)=false→nm.size≤9223372036854775807,i1 (⟨ty,cl,ss,sq,bo,kd,er,f1,f2,d1,d2,nm,ot,mo,pl,da,ve,en⟩:Msg)=false→(ty==3)=false→i3 (⟨ty,cl,ss,sq,bo,kd,er,f1,f2,d1,d2,nm,ot,mo,pl,da,ve,en⟩:Msg)=false→(ty==1)=false→i5 (⟨ty,cl,ss,sq,bo,kd,er,f1,f2,d1,d2,nm,ot,mo,pl,da,ve,en⟩:Msg)=false→(er != 0)=false→ot.size≤9223372036854775807,i1 (⟨ty,cl,ss,sq,bo,kd,er,f1,f2,d1,d2,nm,ot,mo,pl,da,ve,en⟩:Msg)=false→(ty==3)=false→i3 (⟨ty,cl,ss,sq,bo,kd,er,f1,f2,d1,d2,nm,ot,mo,pl,da,ve,en⟩:Msg)=false→(ty==1)=false→i5 (⟨ty,cl,ss,sq,bo,kd,er,f1,f2,d1,d2,nm,ot,mo,pl,da,ve,en⟩:Msg)=false→(er != 0)=false→Szs en,i1 (⟨ty,cl,ss,sq,bo,kd,er,f1,f2,d1,d2,nm,ot,mo,pl,da,ve,en⟩:Msg)=false→(ty==3)=false→i3 (⟨ty,cl,ss,sq,bo,kd,er,f1,f2,d1,d2,nm,ot,mo,pl,da,ve,en⟩:Msg)=false→(ty==1)=false→i5 (⟨ty,cl,ss,sq,bo,kd,er,f1,f2,d1,d2,nm,ot,mo,pl,da,ve,en⟩:Msg)=false→(er != 0)=false→1≤kd∧kd≤14] (by kernel_rfl) (by kernel_rfl) ((yaa (fun _ _ _=>rfl) (yaa (fun _ _ _=>by decide) (yaa (fun _ _ _=>hnm) (yaa (fun _ _ _=>hot) (yaa (fun _ _ _=>hz) (yaa (fun _ _ _ _ _=>rfl) (yaa (fun _ _ _ _ _=>fieldsS_size _ _) (yaa (fun _ _ _ _ _=>hnm) (yaa (fun _ _ _ _ _=>hot) (yaa (fun _ _ _ _ _=>hz) (yaa (fun _ _ h _ _=>i3_kd h) (yaa (fun _ _ _ _ _ _=>rfl) (yaa (fun _ _ _ _ _ _=>by decide) (yaa (fun _ _ _ _ _ _=>hnm) (yaa (fun _ _ _ _ _ _=>hot) (yaa (fun _ _ _ _ _ _=>hz) (yaa (fun _ _ _ _ _ _=>rfl) (yaa (fun _ _ _ _ _ _=>fieldsS_size _ _) (yaa (fun _ _ _ _ _ _=>hnm) (yaa (fun _ _ _ _ _ _=>hot) (yaa (fun _ _ _ _ _ _=>hz) (yaa (fun _ _ h _ _ _=>i3_kd h) mnil)))))))))))))))))))))))
end Mm
end Go.Proofs.Ytiiekgcjilelpaa
