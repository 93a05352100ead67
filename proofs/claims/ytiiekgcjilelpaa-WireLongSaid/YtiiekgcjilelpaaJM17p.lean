/- JM11 JM12 JM13 JM14 JM15 JM17. -/
import Derived.Test.YtiiekgcjilelpaaJM10p
import Derived.Test.YtiiekgcjilelpaaJM9p
import Derived.Test.YtiiekgcjilelpaaG0p
import Derived.Deep.CutBlock
import Derived.Deep.DeepCutAuto
set_option linter.unusedSimpArgs false
set_option linter.unusedVariables false
namespace Go.Proofs.Ytiiekgcjilelpaa
open Go.RowKit
namespace Mm
def orC (x y:Bool):Bool:=cond x x y
def askedI (kd:Int):Int:=cond (orC (kd==12) (kd==11)) 1 (cond (orC (kd==3) (kd==5)) 6 (cond (kd==4) 22 (cond (kd==6) 15 (cond (kd==7) 2 (cond (orC (kd==8) (kd==13)) 17 (cond (kd==9) 33 (cond (kd==10) 97 0)))))))
def toldI (kd:Int):Int:=cond (kd==3) 17 (cond (kd==4) 1 (cond (kd==7) 256 (cond (orC (kd==8) (orC (kd==13) (orC (kd==10) (kd==11)))) 128 (cond (kd==9) 192 0))))
set_option maxRecDepth 100000 in
theorem asked_c (kd:Int) (w:World):Calls Try.prog 211 #[.int .i64 kd] w fun e w'=>e=.returned (.int .u16 (askedI kd))∧Ext w w':=
 sym_i (S:=⟨Try.prog,[],[],noApp,labI.one,40⟩) (I:=labI) (L:=[]) (args:=[.one (.v (.int .i64 kd))]) (us:=[.int .i64 kd]) (e:=[]) (mem:=[]) (SyOk.mk' Try.mixed (FnsOk.nil) (EqsOk.nil)) Try.func211 (by kernel_rfl) (LpsOk.nil _) ⟨rfl,trivial⟩ (by kernel_rfl) (memOk_nil _ w) [] (by kernel_rfl) (by kernel_rfl) (by simp)
def F_asked:Nat×Fn2 Lab:=(211,fun us mem=>match us with|[.one a0]=>(match valP a0 with|some (.int .i64 kd)=>some ([],svV (.int .u16 (askedI kd)),none)|_=>none)|_=>none)
theorem F_asked_ok {W0:World} {G:Nat→Prop} {F:Fns Lab} (ht:FnsOk Try.prog labI W0 G F):FnsOk Try.prog labI W0 G (F_asked::F):=
 FnsOk.cons Try.call211 (fun args mem ps r mo h hp w e us hM ha=>by
  repeat' split at h
  all_goals first
   |(cases h;done)
   |skip
  simp only [Option.some.injEq,Prod.mk.injEq] at h
  obtain ⟨rfl,rfl,rfl⟩:=h
  simp only [allC_cons,allC_nil] at ha
  obtain ⟨u0,t0,rfl,hc0,rfl⟩:=ha
  obtain rfl:=valP_is (by assumption) (show PV.is e _ _ from hc0)
  refine (asked_c _ w ).mono fun x w' ⟨h1,h2⟩=>⟨_,h1,rfl,h2⟩
  all_goals skip) ht
set_option maxRecDepth 100000 in
theorem told_c (kd:Int) (w:World):Calls Try.prog 212 #[.int .i64 kd] w fun e w'=>e=.returned (.int .u16 (toldI kd))∧Ext w w':=
 sym_i (S:=⟨Try.prog,[],[],noApp,labI.one,40⟩) (I:=labI) (L:=[]) (args:=[.one (.v (.int .i64 kd))]) (us:=[.int .i64 kd]) (e:=[]) (mem:=[]) (SyOk.mk' Try.mixed (FnsOk.nil) (EqsOk.nil)) Try.func212 (by kernel_rfl) (LpsOk.nil _) ⟨rfl,trivial⟩ (by kernel_rfl) (memOk_nil _ w) [] (by kernel_rfl) (by kernel_rfl) (by simp)
def F_told:Nat×Fn2 Lab:=(212,fun us mem=>match us with|[.one a0]=>(match valP a0 with|some (.int .i64 kd)=>some ([],svV (.int .u16 (toldI kd)),none)|_=>none)|_=>none)
theorem F_told_ok {W0:World} {G:Nat→Prop} {F:Fns Lab} (ht:FnsOk Try.prog labI W0 G F):FnsOk Try.prog labI W0 G (F_told::F):=
 FnsOk.cons Try.call212 (fun args mem ps r mo h hp w e us hM ha=>by
  repeat' split at h
  all_goals first
   |(cases h;done)
   |skip
  simp only [Option.some.injEq,Prod.mk.injEq] at h
  obtain ⟨rfl,rfl,rfl⟩:=h
  simp only [allC_cons,allC_nil] at ha
  obtain ⟨u0,t0,rfl,hc0,rfl⟩:=ha
  obtain rfl:=valP_is (by assumption) (show PV.is e _ _ from hc0)
  refine (told_c _ w ).mono fun x w' ⟨h1,h2⟩=>⟨_,h1,rfl,h2⟩
  all_goals skip) ht
end Mm
namespace Mm
def kindB (m:Msg):Bool:=decide (m.kd≥1)&&decide (m.kd≤14)
def req1 (m:Msg):Bool:=headB m&&kindB m&&m.er==0
def rep1 (m:Msg):Bool:=headB m&&kindB m&&decide (m.er≥0)&&decide (m.er≤25)
def rec1 (m:Msg):Bool:=headB m&&m.kd==0&&m.er==0
def req2 (m:Msg):Bool:=req1 m&&hasB m (askedI m.kd)
def rep2 (m:Msg):Bool:=rep1 m&&((m.er==0&&hasB m (toldI m.kd))||(m.er != 0&&hasB m 0))
def rec2 (m:Msg):Bool:=rec1 m&&hasB m 1
def checkI (m:Msg):Int:=cond (m.ty==1) (cond (!req2 m) 4 0) (cond (m.ty==2) (cond (!rep2 m) 4 0) (cond (m.ty==3) (cond (!rec2 m) 4 0) 4))
set_option maxRecDepth 100000 in
theorem mcheck_c (ty cl ss sq bo kd er f1 f2 d1 d2:Int) (nm ot:ByteArray) (mo pl:Int) (da:ByteArray) (ve:Int) (en:List Ent) (v:Value) (w:World) (hv:Es w v en):Calls Try.prog 139 #[.agg #[.int .i64 ty,.int .i64 cl,.int .u64 ss,.int .u64 sq,.int .u64 bo,.int .i64 kd,.int .i64 er,.int .i64 f1,.int .i64 f2,.int .i64 d1,.int .i64 d2,.string nm,.string ot,.int .i64 mo,.int .i64 pl,.string da,.int .u64 ve,v]] w fun e w'=>e=.returned (.int .i64 (checkI (⟨ty,cl,ss,sq,bo,kd,er,f1,f2,d1,d2,nm,ot,mo,pl,da,ve,en⟩:Msg)))∧Ext w w':=
 sym_i (S:=⟨Try.prog,[F_headed,F_asked,F_told,F_mhas],[E_file],noApp,labI.one,40⟩) (I:=labI) (L:=[]) (args:=[.agg [.v (.int .i64 ty),.v (.int .i64 cl),.v (.int .u64 ss),.v (.int .u64 sq),.v (.int .u64 bo),.v (.int .i64 kd),.v (.int .i64 er),.v (.int .i64 f1),.v (.int .i64 f2),.v (.int .i64 d1),.v (.int .i64 d2),.v (.string nm),.v (.string ot),.v (.int .i64 mo),.v (.int .i64 pl),.v (.string da),.v (.int .u64 ve),.obj 0]]) (us:=[.agg #[.int .i64 ty,.int .i64 cl,.int .u64 ss,.int .u64 sq,.int .u64 bo,.int .i64 kd,.int .i64 er,.int .i64 f1,.int .i64 f2,.int .i64 d1,.int .i64 d2,.string nm,.string ot,.int .i64 mo,.int .i64 pl,.string da,.int .u64 ve,v]]) (e:=[v]) (mem:=[enS en]) (SyOk.mk' Try.mixed (F_headed_ok (F_asked_ok (F_told_ok (F_mhas_ok (FnsOk.nil))))) (E_file_ok (EqsOk.nil))) Try.func139 (by kernel_rfl) (LpsOk.nil _) ⟨⟨[.int .i64 ty,.int .i64 cl,.int .u64 ss,.int .u64 sq,.int .u64 bo,.int .i64 kd,.int .i64 er,.int .i64 f1,.int .i64 f2,.int .i64 d1,.int .i64 d2,.string nm,.string ot,.int .i64 mo,.int .i64 pl,.string da,.int .u64 ve,v],⟨rfl,rfl,rfl,rfl,rfl,rfl,rfl,rfl,rfl,rfl,rfl,rfl,rfl,rfl,rfl,rfl,rfl,rfl,trivial⟩,rfl⟩,trivial⟩ (by kernel_rfl) (memOk_es1 hv) [entKS en=entKS en,(ty==1)=true→(req1 (⟨ty,cl,ss,sq,bo,kd,er,f1,f2,d1,d2,nm,ot,mo,pl,da,ve,en⟩:Msg)&&true)=true→entKS en=entKS en,(ty==1)=false→(ty==2)=true→(er != 0&&(!(er==0&&hasB (⟨ty,cl,ss,sq,bo,kd,er,f1,f2,d1,d2,nm,ot,mo,pl,da,ve,en⟩:Msg) (toldI kd))&&(rep1 (⟨ty,cl,ss,sq,bo,kd,er,f1,f2,d1,d2,nm,ot,mo,pl,da,ve,en⟩:Msg)&&true)))=true→entKS en=entKS en,(ty==1)=false→(ty==2)=true→(er==0&&(rep1 (⟨ty,cl,ss,sq,bo,kd,er,f1,f2,d1,d2,nm,ot,mo,pl,da,ve,en⟩:Msg)&&true))=true→entKS en=entKS en,(ty==1)=false→(ty==2)=false→(ty==3)=true→(rec1 (⟨ty,cl,ss,sq,bo,kd,er,f1,f2,d1,d2,nm,ot,mo,pl,da,ve,en⟩:Msg)&&true)=true→entKS en=entKS en] (by kernel_rfl) (by kernel_rfl) ((mcons rfl (mcons (fun _ _=>rfl) (mcons (fun _ _ _=>rfl) (mcons (fun _ _ _=>rfl) (mcons (fun _ _ _ _=>rfl) mnil))))))
end Mm
namespace Mm
end Mm
namespace Mm
end Mm
namespace Mm
def i1 (m:Msg):Bool:=decide (m.cl<0)||decide (m.cl>7)||!rcountB m.ss
def i2 (m:Msg):Bool:=m.sq==0&&rcountB m.bo&&m.kd==0&&m.er==0
def i3 (m:Msg):Bool:=!rcountB m.sq||decide (m.kd<1)||decide (m.kd>14)||decide (m.ty<1)||decide (m.ty>2)
def i4 (m:Msg):Bool:=m.er==0&&((m.kd==1&&m.bo==0)||(m.kd != 1&&rcountB m.bo))
end Mm
namespace Mm
def Ent.cells (d:Ent):List Value:=[.string d.nm,.int .i64 d.ino,.int .i64 d.gen,.int .i64 d.kind]
end Mm
end Go.Proofs.Ytiiekgcjilelpaa
