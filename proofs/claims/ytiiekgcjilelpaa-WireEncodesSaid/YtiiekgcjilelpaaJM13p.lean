/- JM10 JM11 JM12 JM13. -/
import Derived.Test.YtiiekgcjilelpaaJM9p
set_option maxRecDepth 100000
set_option linter.unusedSimpArgs false
set_option linter.unusedVariables false
namespace Go.Proofs.Ytiiekgcjilelpaa
open Go.RowKit
namespace Mm
def emp:ByteArray:=⟨#[]⟩
def hasPre (m:Msg) (n:Int):Bool:=okB n 1 (m.f1==0&&m.f2==0) (ysl m.f1 m.f2)&&okB n 2 (m.d1==0&&m.d2==0) (ysl m.d1 m.d2)&&okB n 4 (eqS m.nm emp) (yke m.nm)&&okB n 8 (eqS m.ot emp) (yke m.ot)&&okB n 16 (m.mo==0) (twoB m.mo)&&okB n 32 (m.pl==0) (decide (m.pl≥0)&&decide (m.pl<8))&&okB n 64 (eqS m.da emp) (decide ((m.da.size:Int)≤64))&&okB n 128 (m.ve==0) (decide (m.ve≤1099511627775))
def hasB (m:Msg) (n:Int):Bool:=hasPre m n&&okB n 256 ((m.en.length:Int)==0) (ygs m.en)
def ypx (m:Msg):Bool:=decide (m.cl≥0)&&decide (m.cl<8)&&yk7 m.ss&&((yk7 m.sq&&!(m.ty==3))||((m.sq==0)&&(m.ty==3)))&&((yk7 m.bo&&!((m.ty==1)&&(m.kd==1)))||((m.bo==0)&&((m.ty==1)&&(m.kd==1))))
theorem mhas_c (ty cl ss sq bo kd er f1 f2 d1 d2:Int) (nm ot:ByteArray) (mo pl:Int) (da:ByteArray) (ve:Int) (en:List Ent) (v:Value) (nn:Int) (w:World) (hv:Es w v en):Calls Try.prog 210 #[.agg #[.int .i64 ty,.int .i64 cl,.int .u64 ss,.int .u64 sq,.int .u64 bo,.int .i64 kd,.int .i64 er,.int .i64 f1,.int .i64 f2,.int .i64 d1,.int .i64 d2,.string nm,.string ot,.int .i64 mo,.int .i64 pl,.string da,.int .u64 ve,v],.int .u16 nn] w fun e w'=>e=.returned (.bool (hasB (⟨ty,cl,ss,sq,bo,kd,er,f1,f2,d1,d2,nm,ot,mo,pl,da,ve,en⟩:Msg) nn))∧Ext w w':=
 yep (S:=⟨Try.prog,[F_file,ys6,F_two,yqv,(248,inl ⟨Try.prog,[],[],yck,labI.one,40⟩ [] Try.f248 false)],[yu8],yck,labI.one,40⟩) (I:=labI) (L:=[]) (args:=[.agg [.v (.int .i64 ty),.v (.int .i64 cl),.v (.int .u64 ss),.v (.int .u64 sq),.v (.int .u64 bo),.v (.int .i64 kd),.v (.int .i64 er),.v (.int .i64 f1),.v (.int .i64 f2),.v (.int .i64 d1),.v (.int .i64 d2),.v (.string nm),.v (.string ot),.v (.int .i64 mo),.v (.int .i64 pl),.v (.string da),.v (.int .u64 ve),.obj 0],.one (.v (.int .u16 nn))]) (us:=[.agg #[.int .i64 ty,.int .i64 cl,.int .u64 ss,.int .u64 sq,.int .u64 bo,.int .i64 kd,.int .i64 er,.int .i64 f1,.int .i64 f2,.int .i64 d1,.int .i64 d2,.string nm,.string ot,.int .i64 mo,.int .i64 pl,.string da,.int .u64 ve,v],.int .u16 nn]) (e:=[v]) (mem:=[enS en]) (SyOk.mk' Try.mixed (yqt (ymq (yux (yqu (FnsOk.consI Try.call248 rfl Try.func248 (by kernel_rfl) (fun w=>SyOk.mk' Try.mixed (FnsOk.nil) (EqsOk.nil)) (fun w=>LpsOk.nil _) (FnsOk.nil)))))) (ylm (EqsOk.nil))) Try.func210 (by kernel_rfl) (LpsOk.nil _) ⟨⟨[.int .i64 ty,.int .i64 cl,.int .u64 ss,.int .u64 sq,.int .u64 bo,.int .i64 kd,.int .i64 er,.int .i64 f1,.int .i64 f2,.int .i64 d1,.int .i64 d2,.string nm,.string ot,.int .i64 mo,.int .i64 pl,.string da,.int .u64 ve,v],⟨rfl,rfl,rfl,rfl,rfl,rfl,rfl,rfl,rfl,rfl,rfl,rfl,rfl,rfl,rfl,rfl,rfl,rfl,trivial⟩,rfl⟩,rfl,trivial⟩ (by kernel_rfl) (yd0 hv) [(hasPre (⟨ty,cl,ss,sq,bo,kd,er,f1,f2,d1,d2,nm,ot,mo,pl,da,ve,en⟩:Msg) nn&&true)=true→entKS en=entKS en] (by kernel_rfl) (by kernel_rfl) ((yaa (fun _=>rfl) mnil))
def F_mhas:Nat×Fn2 Lab:=(210,fun us mem=>match us with|[.agg a0,.one a1]=>(match a0 with|[b0_0,b0_1,b0_2,b0_3,b0_4,b0_5,b0_6,b0_7,b0_8,b0_9,b0_10,b0_11,b0_12,b0_13,b0_14,b0_15,b0_16,.obj o_v]=>(match valP b0_0 with|some (.int .i64 ty)=>(match valP b0_1 with|some (.int .i64 cl)=>(match valP b0_2 with|some (.int .u64 ss)=>(match valP b0_3 with|some (.int .u64 sq)=>(match valP b0_4 with|some (.int .u64 bo)=>(match valP b0_5 with|some (.int .i64 kd)=>(match valP b0_6 with|some (.int .i64 er)=>(match valP b0_7 with|some (.int .i64 f1)=>(match valP b0_8 with|some (.int .i64 f2)=>(match valP b0_9 with|some (.int .i64 d1)=>(match valP b0_10 with|some (.int .i64 d2)=>(match valP b0_11 with|some (.string nm)=>(match valP b0_12 with|some (.string ot)=>(match valP b0_13 with|some (.int .i64 mo)=>(match valP b0_14 with|some (.int .i64 pl)=>(match valP b0_15 with|some (.string da)=>(match valP b0_16 with|some (.int .u64 ve)=>(match valP a1 with|some (.int .u16 nn)=>(match mem[o_v]? with|some ⟨.sl K_v (.ents en),_⟩=>some ([K_v=entKS en],svV (.bool (hasB (⟨ty,cl,ss,sq,bo,kd,er,f1,f2,d1,d2,nm,ot,mo,pl,da,ve,en⟩:Msg) nn)),none)|_=>none)|_=>none)|_=>none)|_=>none)|_=>none)|_=>none)|_=>none)|_=>none)|_=>none)|_=>none)|_=>none)|_=>none)|_=>none)|_=>none)|_=>none)|_=>none)|_=>none)|_=>none)|_=>none)|_=>none)|_=>none)
theorem F_mhas_ok {W0:World} {G:Nat→Prop} {F:Fns Lab} (ht:FnsOk Try.prog labI W0 G F):FnsOk Try.prog labI W0 G (F_mhas::F):=
 FnsOk.cons Try.call210 (fun args mem ps r mo h hp w e us hM ha=>by
  repeat' split at h
  all_goals first
   |(cases h;done)
   |skip
  simp only [Option.some.injEq,Prod.mk.injEq] at h
  obtain ⟨rfl,rfl,rfl⟩:=h
  simp only [yba,ybk] at ha
  obtain ⟨u0,t0,rfl,hc0,u1,t1,rfl,hc1,rfl⟩:=ha
  obtain ⟨xs0,hxs0,rfl⟩:=hc0
  simp only [ydk,yd4] at hxs0
  obtain ⟨y0_0,s0_0,rfl,hb0_0,y0_1,s0_1,rfl,hb0_1,y0_2,s0_2,rfl,hb0_2,y0_3,s0_3,rfl,hb0_3,y0_4,s0_4,rfl,hb0_4,y0_5,s0_5,rfl,hb0_5,y0_6,s0_6,rfl,hb0_6,y0_7,s0_7,rfl,hb0_7,y0_8,s0_8,rfl,hb0_8,y0_9,s0_9,rfl,hb0_9,y0_10,s0_10,rfl,hb0_10,y0_11,s0_11,rfl,hb0_11,y0_12,s0_12,rfl,hb0_12,y0_13,s0_13,rfl,hb0_13,y0_14,s0_14,rfl,hb0_14,y0_15,s0_15,rfl,hb0_15,y0_16,s0_16,rfl,hb0_16,y0_17,s0_17,rfl,hb0_17,rfl⟩:=hxs0
  obtain rfl:=yad (by assumption) hb0_0
  obtain rfl:=yad (by assumption) hb0_1
  obtain rfl:=yad (by assumption) hb0_2
  obtain rfl:=yad (by assumption) hb0_3
  obtain rfl:=yad (by assumption) hb0_4
  obtain rfl:=yad (by assumption) hb0_5
  obtain rfl:=yad (by assumption) hb0_6
  obtain rfl:=yad (by assumption) hb0_7
  obtain rfl:=yad (by assumption) hb0_8
  obtain rfl:=yad (by assumption) hb0_9
  obtain rfl:=yad (by assumption) hb0_10
  obtain rfl:=yad (by assumption) hb0_11
  obtain rfl:=yad (by assumption) hb0_12
  obtain rfl:=yad (by assumption) hb0_13
  obtain rfl:=yad (by assumption) hb0_14
  obtain rfl:=yad (by assumption) hb0_15
  obtain rfl:=yad (by assumption) hb0_16
  obtain rfl:=yad (by assumption) (show PV.is e _ _ from hc1)
  refine (mhas_c _ _ _ _ _ _ _ _ _ _ _ _ _ _ _ _ _ _ _ _ w ?_).mono fun x w' ⟨h1,h2⟩=>⟨_,h1,rfl,h2⟩
  all_goals first
   |(exact yls hM (by assumption) (by assumption) (hp _ (by simp)))
   |(exact hp _ (by simp))) ht
theorem headed_c (ty cl ss sq bo kd er f1 f2 d1 d2:Int) (nm ot:ByteArray) (mo pl:Int) (da:ByteArray) (ve:Int) (en:List Ent) (v:Value) (w:World) (hv:Es w v en):Calls Try.prog 209 #[.agg #[.int .i64 ty,.int .i64 cl,.int .u64 ss,.int .u64 sq,.int .u64 bo,.int .i64 kd,.int .i64 er,.int .i64 f1,.int .i64 f2,.int .i64 d1,.int .i64 d2,.string nm,.string ot,.int .i64 mo,.int .i64 pl,.string da,.int .u64 ve,v]] w fun e w'=>e=.returned (.bool (ypx (⟨ty,cl,ss,sq,bo,kd,er,f1,f2,d1,d2,nm,ot,mo,pl,da,ve,en⟩:Msg)))∧Ext w w':=
 yep (S:=⟨Try.prog,[F_count],[],yck,labI.one,40⟩) (I:=labI) (L:=[]) (args:=[.agg [.v (.int .i64 ty),.v (.int .i64 cl),.v (.int .u64 ss),.v (.int .u64 sq),.v (.int .u64 bo),.v (.int .i64 kd),.v (.int .i64 er),.v (.int .i64 f1),.v (.int .i64 f2),.v (.int .i64 d1),.v (.int .i64 d2),.v (.string nm),.v (.string ot),.v (.int .i64 mo),.v (.int .i64 pl),.v (.string da),.v (.int .u64 ve),.obj 0]]) (us:=[.agg #[.int .i64 ty,.int .i64 cl,.int .u64 ss,.int .u64 sq,.int .u64 bo,.int .i64 kd,.int .i64 er,.int .i64 f1,.int .i64 f2,.int .i64 d1,.int .i64 d2,.string nm,.string ot,.int .i64 mo,.int .i64 pl,.string da,.int .u64 ve,v]]) (e:=[v]) (mem:=[enS en]) (SyOk.mk' Try.mixed (ywy (FnsOk.nil)) (EqsOk.nil)) Try.func209 (by kernel_rfl) (LpsOk.nil _) ⟨⟨[.int .i64 ty,.int .i64 cl,.int .u64 ss,.int .u64 sq,.int .u64 bo,.int .i64 kd,.int .i64 er,.int .i64 f1,.int .i64 f2,.int .i64 d1,.int .i64 d2,.string nm,.string ot,.int .i64 mo,.int .i64 pl,.string da,.int .u64 ve,v],⟨rfl,rfl,rfl,rfl,rfl,rfl,rfl,rfl,rfl,rfl,rfl,rfl,rfl,rfl,rfl,rfl,rfl,rfl,trivial⟩,rfl⟩,trivial⟩ (by kernel_rfl) (yd0 hv) [] (by kernel_rfl) (by kernel_rfl) (by simp)
def yu4:Nat×Fn2 Lab:=(209,fun us mem=>match us with|[.agg a0]=>(match a0 with|[b0_0,b0_1,b0_2,b0_3,b0_4,b0_5,b0_6,b0_7,b0_8,b0_9,b0_10,b0_11,b0_12,b0_13,b0_14,b0_15,b0_16,.obj o_v]=>(match valP b0_0 with|some (.int .i64 ty)=>(match valP b0_1 with|some (.int .i64 cl)=>(match valP b0_2 with|some (.int .u64 ss)=>(match valP b0_3 with|some (.int .u64 sq)=>(match valP b0_4 with|some (.int .u64 bo)=>(match valP b0_5 with|some (.int .i64 kd)=>(match valP b0_6 with|some (.int .i64 er)=>(match valP b0_7 with|some (.int .i64 f1)=>(match valP b0_8 with|some (.int .i64 f2)=>(match valP b0_9 with|some (.int .i64 d1)=>(match valP b0_10 with|some (.int .i64 d2)=>(match valP b0_11 with|some (.string nm)=>(match valP b0_12 with|some (.string ot)=>(match valP b0_13 with|some (.int .i64 mo)=>(match valP b0_14 with|some (.int .i64 pl)=>(match valP b0_15 with|some (.string da)=>(match valP b0_16 with|some (.int .u64 ve)=>(match mem[o_v]? with|some ⟨.sl K_v (.ents en),_⟩=>some ([K_v=entKS en],svV (.bool (ypx (⟨ty,cl,ss,sq,bo,kd,er,f1,f2,d1,d2,nm,ot,mo,pl,da,ve,en⟩:Msg))),none)|_=>none)|_=>none)|_=>none)|_=>none)|_=>none)|_=>none)|_=>none)|_=>none)|_=>none)|_=>none)|_=>none)|_=>none)|_=>none)|_=>none)|_=>none)|_=>none)|_=>none)|_=>none)|_=>none)|_=>none)
theorem ys7 {W0:World} {G:Nat→Prop} {F:Fns Lab} (ht:FnsOk Try.prog labI W0 G F):FnsOk Try.prog labI W0 G (yu4::F):=
 FnsOk.cons Try.call209 (fun args mem ps r mo h hp w e us hM ha=>by
  repeat' split at h
  all_goals first
   |(cases h;done)
   |skip
  simp only [Option.some.injEq,Prod.mk.injEq] at h
  obtain ⟨rfl,rfl,rfl⟩:=h
  simp only [yba,ybk] at ha
  obtain ⟨u0,t0,rfl,hc0,rfl⟩:=ha
  obtain ⟨xs0,hxs0,rfl⟩:=hc0
  simp only [ydk,yd4] at hxs0
  obtain ⟨y0_0,s0_0,rfl,hb0_0,y0_1,s0_1,rfl,hb0_1,y0_2,s0_2,rfl,hb0_2,y0_3,s0_3,rfl,hb0_3,y0_4,s0_4,rfl,hb0_4,y0_5,s0_5,rfl,hb0_5,y0_6,s0_6,rfl,hb0_6,y0_7,s0_7,rfl,hb0_7,y0_8,s0_8,rfl,hb0_8,y0_9,s0_9,rfl,hb0_9,y0_10,s0_10,rfl,hb0_10,y0_11,s0_11,rfl,hb0_11,y0_12,s0_12,rfl,hb0_12,y0_13,s0_13,rfl,hb0_13,y0_14,s0_14,rfl,hb0_14,y0_15,s0_15,rfl,hb0_15,y0_16,s0_16,rfl,hb0_16,y0_17,s0_17,rfl,hb0_17,rfl⟩:=hxs0
  obtain rfl:=yad (by assumption) hb0_0
  obtain rfl:=yad (by assumption) hb0_1
  obtain rfl:=yad (by assumption) hb0_2
  obtain rfl:=yad (by assumption) hb0_3
  obtain rfl:=yad (by assumption) hb0_4
  obtain rfl:=yad (by assumption) hb0_5
  obtain rfl:=yad (by assumption) hb0_6
  obtain rfl:=yad (by assumption) hb0_7
  obtain rfl:=yad (by assumption) hb0_8
  obtain rfl:=yad (by assumption) hb0_9
  obtain rfl:=yad (by assumption) hb0_10
  obtain rfl:=yad (by assumption) hb0_11
  obtain rfl:=yad (by assumption) hb0_12
  obtain rfl:=yad (by assumption) hb0_13
  obtain rfl:=yad (by assumption) hb0_14
  obtain rfl:=yad (by assumption) hb0_15
  obtain rfl:=yad (by assumption) hb0_16
  refine (headed_c _ _ _ _ _ _ _ _ _ _ _ _ _ _ _ _ _ _ _ w ?_).mono fun x w' ⟨h1,h2⟩=>⟨_,h1,rfl,h2⟩
  all_goals first
   |(exact yls hM (by assumption) (by assumption) (hp _ (by simp)))
   |(exact hp _ (by simp))) ht
end Mm
namespace Mm
def orC (x y:Bool):Bool:=cond x x y
def yuq (kd:Int):Int:=cond (orC (kd==12) (kd==11)) 1 (cond (orC (kd==3) (kd==5)) 6 (cond (kd==4) 22 (cond (kd==6) 15 (cond (kd==7) 2 (cond (orC (kd==8) (kd==13)) 17 (cond (kd==9) 33 (cond (kd==10) 97 0)))))))
def toldI (kd:Int):Int:=cond (kd==3) 17 (cond (kd==4) 1 (cond (kd==7) 256 (cond (orC (kd==8) (orC (kd==13) (orC (kd==10) (kd==11)))) 128 (cond (kd==9) 192 0))))
theorem asked_c (kd:Int) (w:World):Calls Try.prog 211 #[.int .i64 kd] w fun e w'=>e=.returned (.int .u16 (yuq kd))∧Ext w w':=
 sym_i (S:=⟨Try.prog,[],[],yck,labI.one,40⟩) (I:=labI) (L:=[]) (args:=[.one (.v (.int .i64 kd))]) (us:=[.int .i64 kd]) (e:=[]) (mem:=[]) (SyOk.mk' Try.mixed (FnsOk.nil) (EqsOk.nil)) Try.func211 (by kernel_rfl) (LpsOk.nil _) ⟨rfl,trivial⟩ (by kernel_rfl) (ybx _ w) [] (by kernel_rfl) (by kernel_rfl) (by simp)
def F_asked:Nat×Fn2 Lab:=(211,fun us mem=>match us with|[.one a0]=>(match valP a0 with|some (.int .i64 kd)=>some ([],svV (.int .u16 (yuq kd)),none)|_=>none)|_=>none)
theorem yw0 {W0:World} {G:Nat→Prop} {F:Fns Lab} (ht:FnsOk Try.prog labI W0 G F):FnsOk Try.prog labI W0 G (F_asked::F):=
 FnsOk.cons Try.call211 (fun args mem ps r mo h hp w e us hM ha=>by
  repeat' split at h
  all_goals first
   |(cases h;done)
   |skip
  simp only [Option.some.injEq,Prod.mk.injEq] at h
  obtain ⟨rfl,rfl,rfl⟩:=h
  simp only [yba,ybk] at ha
  obtain ⟨u0,t0,rfl,hc0,rfl⟩:=ha
  obtain rfl:=yad (by assumption) (show PV.is e _ _ from hc0)
  refine (asked_c _ w ).mono fun x w' ⟨h1,h2⟩=>⟨_,h1,rfl,h2⟩
  all_goals skip) ht
theorem told_c (kd:Int) (w:World):Calls Try.prog 212 #[.int .i64 kd] w fun e w'=>e=.returned (.int .u16 (toldI kd))∧Ext w w':=
 sym_i (S:=⟨Try.prog,[],[],yck,labI.one,40⟩) (I:=labI) (L:=[]) (args:=[.one (.v (.int .i64 kd))]) (us:=[.int .i64 kd]) (e:=[]) (mem:=[]) (SyOk.mk' Try.mixed (FnsOk.nil) (EqsOk.nil)) Try.func212 (by kernel_rfl) (LpsOk.nil _) ⟨rfl,trivial⟩ (by kernel_rfl) (ybx _ w) [] (by kernel_rfl) (by kernel_rfl) (by simp)
def F_told:Nat×Fn2 Lab:=(212,fun us mem=>match us with|[.one a0]=>(match valP a0 with|some (.int .i64 kd)=>some ([],svV (.int .u16 (toldI kd)),none)|_=>none)|_=>none)
theorem F_told_ok {W0:World} {G:Nat→Prop} {F:Fns Lab} (ht:FnsOk Try.prog labI W0 G F):FnsOk Try.prog labI W0 G (F_told::F):=
 FnsOk.cons Try.call212 (fun args mem ps r mo h hp w e us hM ha=>by
  repeat' split at h
  all_goals first
   |(cases h;done)
   |skip
  simp only [Option.some.injEq,Prod.mk.injEq] at h
  obtain ⟨rfl,rfl,rfl⟩:=h
  simp only [yba,ybk] at ha
  obtain ⟨u0,t0,rfl,hc0,rfl⟩:=ha
  obtain rfl:=yad (by assumption) (show PV.is e _ _ from hc0)
  refine (told_c _ w ).mono fun x w' ⟨h1,h2⟩=>⟨_,h1,rfl,h2⟩
  all_goals skip) ht
end Mm
namespace Mm
def yv5 (m:Msg):Bool:=decide (m.kd≥1)&&decide (m.kd≤14)
def req1 (m:Msg):Bool:=ypx m&&yv5 m&&m.er==0
def rep1 (m:Msg):Bool:=ypx m&&yv5 m&&decide (m.er≥0)&&decide (m.er≤25)
def rec1 (m:Msg):Bool:=ypx m&&m.kd==0&&m.er==0
def req2 (m:Msg):Bool:=req1 m&&hasB m (yuq m.kd)
def rep2 (m:Msg):Bool:=rep1 m&&((m.er==0&&hasB m (toldI m.kd))||(m.er != 0&&hasB m 0))
def rec2 (m:Msg):Bool:=rec1 m&&hasB m 1
def checkI (m:Msg):Int:=cond (m.ty==1) (cond (!req2 m) 4 0) (cond (m.ty==2) (cond (!rep2 m) 4 0) (cond (m.ty==3) (cond (!rec2 m) 4 0) 4))
theorem mcheck_c (ty cl ss sq bo kd er f1 f2 d1 d2:Int) (nm ot:ByteArray) (mo pl:Int) (da:ByteArray) (ve:Int) (en:List Ent) (v:Value) (w:World) (hv:Es w v en):Calls Try.prog 139 #[.agg #[.int .i64 ty,.int .i64 cl,.int .u64 ss,.int .u64 sq,.int .u64 bo,.int .i64 kd,.int .i64 er,.int .i64 f1,.int .i64 f2,.int .i64 d1,.int .i64 d2,.string nm,.string ot,.int .i64 mo,.int .i64 pl,.string da,.int .u64 ve,v]] w fun e w'=>e=.returned (.int .i64 (checkI (⟨ty,cl,ss,sq,bo,kd,er,f1,f2,d1,d2,nm,ot,mo,pl,da,ve,en⟩:Msg)))∧Ext w w':=
 sym_i (S:=⟨Try.prog,[yu4,F_asked,F_told,F_mhas],[yu8],yck,labI.one,40⟩) (I:=labI) (L:=[]) (args:=[.agg [.v (.int .i64 ty),.v (.int .i64 cl),.v (.int .u64 ss),.v (.int .u64 sq),.v (.int .u64 bo),.v (.int .i64 kd),.v (.int .i64 er),.v (.int .i64 f1),.v (.int .i64 f2),.v (.int .i64 d1),.v (.int .i64 d2),.v (.string nm),.v (.string ot),.v (.int .i64 mo),.v (.int .i64 pl),.v (.string da),.v (.int .u64 ve),.obj 0]]) (us:=[.agg #[.int .i64 ty,.int .i64 cl,.int .u64 ss,.int .u64 sq,.int .u64 bo,.int .i64 kd,.int .i64 er,.int .i64 f1,.int .i64 f2,.int .i64 d1,.int .i64 d2,.string nm,.string ot,.int .i64 mo,.int .i64 pl,.string da,.int .u64 ve,v]]) (e:=[v]) (mem:=[enS en]) (SyOk.mk' Try.mixed (ys7 (yw0 (F_told_ok (F_mhas_ok (FnsOk.nil))))) (ylm (EqsOk.nil))) Try.func139 (by kernel_rfl) (LpsOk.nil _) ⟨⟨[.int .i64 ty,.int .i64 cl,.int .u64 ss,.int .u64 sq,.int .u64 bo,.int .i64 kd,.int .i64 er,.int .i64 f1,.int .i64 f2,.int .i64 d1,.int .i64 d2,.string nm,.string ot,.int .i64 mo,.int .i64 pl,.string da,.int .u64 ve,v],⟨rfl,rfl,rfl,rfl,rfl,rfl,rfl,rfl,rfl,rfl,rfl,rfl,rfl,rfl,rfl,rfl,rfl,rfl,trivial⟩,rfl⟩,trivial⟩ (by kernel_rfl) (yd0 hv) [entKS en=entKS en,(ty==1)=true→(req1 (⟨ty,cl,ss,sq,bo,kd,er,f1,f2,d1,d2,nm,ot,mo,pl,da,ve,en⟩:Msg)&&true)=true→entKS en=entKS en,(ty==1)=false→(ty==2)=true→(er != 0&&(!(er==0&&hasB (⟨ty,cl,ss,sq,bo,kd,er,f1,f2,d1,d2,nm,ot,mo,pl,da,ve,en⟩:Msg) (toldI kd))&&(rep1 (⟨ty,cl,ss,sq,bo,kd,er,f1,f2,d1,d2,nm,ot,mo,pl,da,ve,en⟩:Msg)&&true)))=true→entKS en=entKS en,(ty==1)=false→(ty==2)=true→(er==0&&(rep1 (⟨ty,cl,ss,sq,bo,kd,er,f1,f2,d1,d2,nm,ot,mo,pl,da,ve,en⟩:Msg)&&true))=true→entKS en=entKS en,(ty==1)=false→(ty==2)=false→(ty==3)=true→(rec1 (⟨ty,cl,ss,sq,bo,kd,er,f1,f2,d1,d2,nm,ot,mo,pl,da,ve,en⟩:Msg)&&true)=true→entKS en=entKS en] (by kernel_rfl) (by kernel_rfl) ((yaa rfl (yaa (fun _ _=>rfl) (yaa (fun _ _ _=>rfl) (yaa (fun _ _ _=>rfl) (yaa (fun _ _ _ _=>rfl) mnil))))))
end Mm
namespace Mm
def hasL (s:ByteArray) (c:Int):Bool:=cond (noC s c) false true
def emp':ByteArray:=⟨#[]⟩
def eqT (a b:ByteArray):Bool:=a.toList==b.toList
def badF (h nr nz:Bool):Bool:=(h&&nr)||(!h&&nz)
def entsR (l:List Ent):Bool:=cond (riseB l) true false&&decide ((l.length:Int)≤24)
def justB (m:Msg) (s:ByteArray):Bool:=match m with
 |⟨ty,cl,ss,sq,bo,kd,er,f1,f2,d1,d2,nm,ot,mo,pl,da,ve,en⟩=>cond (badF (hasL s 102) (!rfileB f1 f2) (!(f1==0&&f2==0))) false (cond (badF (hasL s 100) (!rfileB d1 d2) (!(d1==0&&d2==0))) false (cond (badF (hasL s 110) (!nameB nm) (!eqT nm emp')) false (cond (badF (hasL s 111) (!nameB ot) (!eqT ot emp')) false (cond (badF (hasL s 107) (!(mo==1||mo==2)) (mo != 0)) false (cond (badF (hasL s 97) (decide (pl<0)||decide (pl>7)) (pl != 0)) false (cond (badF (hasL s 116) (decide ((da.size:Int)>64)) (!eqT da emp')) false (cond (badF (hasL s 118) (decide (ve>1099511627775)) (ve != 0)) false (cond (hasL s 101) (entsR en) ((en.length:Int)==0)))))))))
theorem just_c (ty cl ss sq bo kd er f1 f2 d1 d2:Int) (nm ot:ByteArray) (mo pl:Int) (da:ByteArray) (ve:Int) (en:List Ent) (v:Value) (s:ByteArray) (w:World) (hv:Es w v en) (hs:s.size≤9223372036854775807) (hnm:nm.size≤9223372036854775807) (hot:ot.size≤9223372036854775807) (hz:Szs en):Calls Try.prog 220 #[.agg #[.int .i64 ty,.int .i64 cl,.int .u64 ss,.int .u64 sq,.int .u64 bo,.int .i64 kd,.int .i64 er,.int .i64 f1,.int .i64 f2,.int .i64 d1,.int .i64 d2,.string nm,.string ot,.int .i64 mo,.int .i64 pl,.string da,.int .u64 ve,v],.string s] w fun e w'=>e=.returned (.bool (justB (⟨ty,cl,ss,sq,bo,kd,er,f1,f2,d1,d2,nm,ot,mo,pl,da,ve,en⟩:Msg) s))∧Ext w w':=
 yep (S:=⟨Try.prog,[F_rhas,F_rfile,F_is,F_rise],[yu8],yck,labI.one,40⟩) (I:=labI) (L:=[]) (args:=[.agg [.v (.int .i64 ty),.v (.int .i64 cl),.v (.int .u64 ss),.v (.int .u64 sq),.v (.int .u64 bo),.v (.int .i64 kd),.v (.int .i64 er),.v (.int .i64 f1),.v (.int .i64 f2),.v (.int .i64 d1),.v (.int .i64 d2),.v (.string nm),.v (.string ot),.v (.int .i64 mo),.v (.int .i64 pl),.v (.string da),.v (.int .u64 ve),.obj 0],.one (.v (.string s))]) (us:=[.agg #[.int .i64 ty,.int .i64 cl,.int .u64 ss,.int .u64 sq,.int .u64 bo,.int .i64 kd,.int .i64 er,.int .i64 f1,.int .i64 f2,.int .i64 d1,.int .i64 d2,.string nm,.string ot,.int .i64 mo,.int .i64 pl,.string da,.int .u64 ve,v],.string s]) (e:=[v]) (mem:=[enS en]) (SyOk.mk' Try.mixed (F_rhas_ok (ywx (F_is_ok (F_rise_ok (FnsOk.nil))))) (ylm (EqsOk.nil))) Try.func220 (by kernel_rfl) (LpsOk.nil _) ⟨⟨[.int .i64 ty,.int .i64 cl,.int .u64 ss,.int .u64 sq,.int .u64 bo,.int .i64 kd,.int .i64 er,.int .i64 f1,.int .i64 f2,.int .i64 d1,.int .i64 d2,.string nm,.string ot,.int .i64 mo,.int .i64 pl,.string da,.int .u64 ve,v],⟨rfl,rfl,rfl,rfl,rfl,rfl,rfl,rfl,rfl,rfl,rfl,rfl,rfl,rfl,rfl,rfl,rfl,rfl,trivial⟩,rfl⟩,rfl,trivial⟩ (by kernel_rfl) (yd0 hv) [(!(hasL s 102&&(!rfileB f1 f2))&&true)=true→s.size≤9223372036854775807,s.size≤9223372036854775807,(badF (hasL s 102) (!rfileB f1 f2) (!(f1==0&&f2==0)))=false→(!(hasL s 100&&(!rfileB d1 d2))&&true)=true→s.size≤9223372036854775807,(badF (hasL s 102) (!rfileB f1 f2) (!(f1==0&&f2==0)))=false→s.size≤9223372036854775807,(badF (hasL s 102) (!rfileB f1 f2) (!(f1==0&&f2==0)))=false→(badF (hasL s 100) (!rfileB d1 d2) (!(d1==0&&d2==0)))=false→(!(hasL s 110&&(!nameB nm))&&true)=true→s.size≤9223372036854775807,(badF (hasL s 102) (!rfileB f1 f2) (!(f1==0&&f2==0)))=false→(badF (hasL s 100) (!rfileB d1 d2) (!(d1==0&&d2==0)))=false→(hasL s 110&&true)=true→nm.size≤9223372036854775807,(badF (hasL s 102) (!rfileB f1 f2) (!(f1==0&&f2==0)))=false→(badF (hasL s 100) (!rfileB d1 d2) (!(d1==0&&d2==0)))=false→s.size≤9223372036854775807,(badF (hasL s 102) (!rfileB f1 f2) (!(f1==0&&f2==0)))=false→(badF (hasL s 100) (!rfileB d1 d2) (!(d1==0&&d2==0)))=false→(badF (hasL s 110) (!nameB nm) (!eqT nm emp'))=false→(!(hasL s 111&&(!nameB ot))&&true)=true→s.size≤9223372036854775807,(badF (hasL s 102) (!rfileB f1 f2) (!(f1==0&&f2==0)))=false→(badF (hasL s 100) (!rfileB d1 d2) (!(d1==0&&d2==0)))=false→(badF (hasL s 110) (!nameB nm) (!eqT nm emp'))=false→(hasL s 111&&true)=true→ot.size≤9223372036854775807,(badF (hasL s 102) (!rfileB f1 f2) (!(f1==0&&f2==0)))=false→(badF (hasL s 100) (!rfileB d1 d2) (!(d1==0&&d2==0)))=false→(badF (hasL s 110) (!nameB nm) (!eqT nm emp'))=false→s.size≤9223372036854775807,(badF (hasL s 102) (!rfileB f1 f2) (!(f1==0&&f2==0)))=false→(badF (hasL s 100) (!rfileB d1 d2) (!(d1==0&&d2==0)))=false→(badF (hasL s 110) (!nameB nm) (!eqT nm emp'))=false→(badF (hasL s 111) (!nameB ot) (!eqT ot emp'))=false→(!(hasL s 107&&(!(mo==1||mo==2)))&&true)=true→s.size≤9223372036854775807,(badF (hasL s 102) (!rfileB f1 f2) (!(f1==0&&f2==0)))=false→(badF (hasL s 100) (!rfileB d1 d2) (!(d1==0&&d2==0)))=false→(badF (hasL s 110) (!nameB nm) (!eqT nm emp'))=false→(badF (hasL s 111) (!nameB ot) (!eqT ot emp'))=false→s.size≤9223372036854775807,(badF (hasL s 102) (!rfileB f1 f2) (!(f1==0&&f2==0)))=false→(badF (hasL s 100) (!rfileB d1 d2) (!(d1==0&&d2==0)))=false→(badF (hasL s 110) (!nameB nm) (!eqT nm emp'))=false→(badF (hasL s 111) (!nameB ot) (!eqT ot emp'))=false→(badF (hasL s 107) (!(mo==1||mo==2)) (mo != 0))=false→(!(hasL s 97&&(decide (pl<0)||decide (pl>7)))&&true)=true→s.size≤9223372036854775807,(badF (hasL s 102) (!rfileB f1 f2) (!(f1==0&&f2==0)))=false→(badF (hasL s 100) (!rfileB d1 d2) (!(d1==0&&d2==0)))=false→(badF (hasL s 110) (!nameB nm) (!eqT nm emp'))=false→(badF (hasL s 111) (!nameB ot) (!eqT ot emp'))=false→(badF (hasL s 107) (!(mo==1||mo==2)) (mo != 0))=false→s.size≤9223372036854775807,(badF (hasL s 102) (!rfileB f1 f2) (!(f1==0&&f2==0)))=false→(badF (hasL s 100) (!rfileB d1 d2) (!(d1==0&&d2==0)))=false→(badF (hasL s 110) (!nameB nm) (!eqT nm emp'))=false→(badF (hasL s 111) (!nameB ot) (!eqT ot emp'))=false→(badF (hasL s 107) (!(mo==1||mo==2)) (mo != 0))=false→(badF (hasL s 97) (decide (pl<0)||decide (pl>7)) (pl != 0))=false→(!(hasL s 116&&(decide ((da.size:Int)>64)))&&true)=true→s.size≤9223372036854775807,(badF (hasL s 102) (!rfileB f1 f2) (!(f1==0&&f2==0)))=false→(badF (hasL s 100) (!rfileB d1 d2) (!(d1==0&&d2==0)))=false→(badF (hasL s 110) (!nameB nm) (!eqT nm emp'))=false→(badF (hasL s 111) (!nameB ot) (!eqT ot emp'))=false→(badF (hasL s 107) (!(mo==1||mo==2)) (mo != 0))=false→(badF (hasL s 97) (decide (pl<0)||decide (pl>7)) (pl != 0))=false→s.size≤9223372036854775807,(badF (hasL s 102) (!rfileB f1 f2) (!(f1==0&&f2==0)))=false→(badF (hasL s 100) (!rfileB d1 d2) (!(d1==0&&d2==0)))=false→(badF (hasL s 110) (!nameB nm) (!eqT nm emp'))=false→(badF (hasL s 111) (!nameB ot) (!eqT ot emp'))=false→(badF (hasL s 107) (!(mo==1||mo==2)) (mo != 0))=false→(badF (hasL s 97) (decide (pl<0)||decide (pl>7)) (pl != 0))=false→(badF (hasL s 116) (decide ((da.size:Int)>64)) (!eqT da emp'))=false→(!(hasL s 118&&(decide (ve>1099511627775)))&&true)=true→s.size≤9223372036854775807,(badF (hasL s 102) (!rfileB f1 f2) (!(f1==0&&f2==0)))=false→(badF (hasL s 100) (!rfileB d1 d2) (!(d1==0&&d2==0)))=false→(badF (hasL s 110) (!nameB nm) (!eqT nm emp'))=false→(badF (hasL s 111) (!nameB ot) (!eqT ot emp'))=false→(badF (hasL s 107) (!(mo==1||mo==2)) (mo != 0))=false→(badF (hasL s 97) (decide (pl<0)||decide (pl>7)) (pl != 0))=false→(badF (hasL s 116) (decide ((da.size:Int)>64)) (!eqT da emp'))=false→s.size≤9223372036854775807,(badF (hasL s 102) (!rfileB f1 f2) (!(f1==0&&f2==0)))=false→(badF (hasL s 100) (!rfileB d1 d2) (!(d1==0&&d2==0)))=false→(badF (hasL s 110) (!nameB nm) (!eqT nm emp'))=false→(badF (hasL s 111) (!nameB ot) (!eqT ot emp'))=false→(badF (hasL s 107) (!(mo==1||mo==2)) (mo != 0))=false→(badF (hasL s 97) (decide (pl<0)||decide (pl>7)) (pl != 0))=false→(badF (hasL s 116) (decide ((da.size:Int)>64)) (!eqT da emp'))=false→(badF (hasL s 118) (decide (ve>1099511627775)) (ve != 0))=false→s.size≤9223372036854775807,(badF (hasL s 102) (!rfileB f1 f2) (!(f1==0&&f2==0)))=false→(badF (hasL s 100) (!rfileB d1 d2) (!(d1==0&&d2==0)))=false→(badF (hasL s 110) (!nameB nm) (!eqT nm emp'))=false→(badF (hasL s 111) (!nameB ot) (!eqT ot emp'))=false→(badF (hasL s 107) (!(mo==1||mo==2)) (mo != 0))=false→(badF (hasL s 97) (decide (pl<0)||decide (pl>7)) (pl != 0))=false→(badF (hasL s 116) (decide ((da.size:Int)>64)) (!eqT da emp'))=false→(badF (hasL s 118) (decide (ve>1099511627775)) (ve != 0))=false→(hasL s 101)=true→entKS en=entKS en,(badF (hasL s 102) (!rfileB f1 f2) (!(f1==0&&f2==0)))=false→(badF (hasL s 100) (!rfileB d1 d2) (!(d1==0&&d2==0)))=false→(badF (hasL s 110) (!nameB nm) (!eqT nm emp'))=false→(badF (hasL s 111) (!nameB ot) (!eqT ot emp'))=false→(badF (hasL s 107) (!(mo==1||mo==2)) (mo != 0))=false→(badF (hasL s 97) (decide (pl<0)||decide (pl>7)) (pl != 0))=false→(badF (hasL s 116) (decide ((da.size:Int)>64)) (!eqT da emp'))=false→(badF (hasL s 118) (decide (ve>1099511627775)) (ve != 0))=false→(hasL s 101)=true→Szs en] (by kernel_rfl) (by kernel_rfl) ((yaa (fun _=>hs) (yaa (hs) (yaa (fun _ _=>hs) (yaa (fun _=>hs) (yaa (fun _ _ _=>hs) (yaa (fun _ _ _=>hnm) (yaa (fun _ _=>hs) (yaa (fun _ _ _ _=>hs) (yaa (fun _ _ _ _=>hot) (yaa (fun _ _ _=>hs) (yaa (fun _ _ _ _ _=>hs) (yaa (fun _ _ _ _=>hs) (yaa (fun _ _ _ _ _ _=>hs) (yaa (fun _ _ _ _ _=>hs) (yaa (fun _ _ _ _ _ _ _=>hs) (yaa (fun _ _ _ _ _ _=>hs) (yaa (fun _ _ _ _ _ _ _ _=>hs) (yaa (fun _ _ _ _ _ _ _=>hs) (yaa (fun _ _ _ _ _ _ _ _=>hs) (yaa (fun _ _ _ _ _ _ _ _ _=>rfl) (yaa (fun _ _ _ _ _ _ _ _ _=>hz) mnil))))))))))))))))))))))
def F_just:Nat×Fn2 Lab:=(220,fun us mem=>match us with|[.agg a0,.one a1]=>(match a0 with|[b0_0,b0_1,b0_2,b0_3,b0_4,b0_5,b0_6,b0_7,b0_8,b0_9,b0_10,b0_11,b0_12,b0_13,b0_14,b0_15,b0_16,.obj o_v]=>(match valP b0_0 with|some (.int .i64 ty)=>(match valP b0_1 with|some (.int .i64 cl)=>(match valP b0_2 with|some (.int .u64 ss)=>(match valP b0_3 with|some (.int .u64 sq)=>(match valP b0_4 with|some (.int .u64 bo)=>(match valP b0_5 with|some (.int .i64 kd)=>(match valP b0_6 with|some (.int .i64 er)=>(match valP b0_7 with|some (.int .i64 f1)=>(match valP b0_8 with|some (.int .i64 f2)=>(match valP b0_9 with|some (.int .i64 d1)=>(match valP b0_10 with|some (.int .i64 d2)=>(match valP b0_11 with|some (.string nm)=>(match valP b0_12 with|some (.string ot)=>(match valP b0_13 with|some (.int .i64 mo)=>(match valP b0_14 with|some (.int .i64 pl)=>(match valP b0_15 with|some (.string da)=>(match valP b0_16 with|some (.int .u64 ve)=>(match valP a1 with|some (.string s)=>(match mem[o_v]? with|some ⟨.sl K_v (.ents en),_⟩=>some ([K_v=entKS en,s.size≤9223372036854775807,nm.size≤9223372036854775807,ot.size≤9223372036854775807,Szs en],svV (.bool (justB (⟨ty,cl,ss,sq,bo,kd,er,f1,f2,d1,d2,nm,ot,mo,pl,da,ve,en⟩:Msg) s)),none)|_=>none)|_=>none)|_=>none)|_=>none)|_=>none)|_=>none)|_=>none)|_=>none)|_=>none)|_=>none)|_=>none)|_=>none)|_=>none)|_=>none)|_=>none)|_=>none)|_=>none)|_=>none)|_=>none)|_=>none)|_=>none)
theorem F_just_ok {W0:World} {G:Nat→Prop} {F:Fns Lab} (ht:FnsOk Try.prog labI W0 G F):FnsOk Try.prog labI W0 G (F_just::F):=
 FnsOk.cons Try.call220 (fun args mem ps r mo h hp w e us hM ha=>by
  repeat' split at h
  all_goals first
   |(cases h;done)
   |skip
  simp only [Option.some.injEq,Prod.mk.injEq] at h
  obtain ⟨rfl,rfl,rfl⟩:=h
  simp only [yba,ybk] at ha
  obtain ⟨u0,t0,rfl,hc0,u1,t1,rfl,hc1,rfl⟩:=ha
  obtain ⟨xs0,hxs0,rfl⟩:=hc0
  simp only [ydk,yd4] at hxs0
  obtain ⟨y0_0,s0_0,rfl,hb0_0,y0_1,s0_1,rfl,hb0_1,y0_2,s0_2,rfl,hb0_2,y0_3,s0_3,rfl,hb0_3,y0_4,s0_4,rfl,hb0_4,y0_5,s0_5,rfl,hb0_5,y0_6,s0_6,rfl,hb0_6,y0_7,s0_7,rfl,hb0_7,y0_8,s0_8,rfl,hb0_8,y0_9,s0_9,rfl,hb0_9,y0_10,s0_10,rfl,hb0_10,y0_11,s0_11,rfl,hb0_11,y0_12,s0_12,rfl,hb0_12,y0_13,s0_13,rfl,hb0_13,y0_14,s0_14,rfl,hb0_14,y0_15,s0_15,rfl,hb0_15,y0_16,s0_16,rfl,hb0_16,y0_17,s0_17,rfl,hb0_17,rfl⟩:=hxs0
  obtain rfl:=yad (by assumption) hb0_0
  obtain rfl:=yad (by assumption) hb0_1
  obtain rfl:=yad (by assumption) hb0_2
  obtain rfl:=yad (by assumption) hb0_3
  obtain rfl:=yad (by assumption) hb0_4
  obtain rfl:=yad (by assumption) hb0_5
  obtain rfl:=yad (by assumption) hb0_6
  obtain rfl:=yad (by assumption) hb0_7
  obtain rfl:=yad (by assumption) hb0_8
  obtain rfl:=yad (by assumption) hb0_9
  obtain rfl:=yad (by assumption) hb0_10
  obtain rfl:=yad (by assumption) hb0_11
  obtain rfl:=yad (by assumption) hb0_12
  obtain rfl:=yad (by assumption) hb0_13
  obtain rfl:=yad (by assumption) hb0_14
  obtain rfl:=yad (by assumption) hb0_15
  obtain rfl:=yad (by assumption) hb0_16
  obtain rfl:=yad (by assumption) (show PV.is e _ _ from hc1)
  refine (just_c _ _ _ _ _ _ _ _ _ _ _ _ _ _ _ _ _ _ _ _ w ?_ ?_ ?_ ?_ ?_).mono fun x w' ⟨h1,h2⟩=>⟨_,h1,rfl,h2⟩
  all_goals first
   |(exact yls hM (by assumption) (by assumption) (hp _ (by simp)))
   |(exact hp _ (by simp))) ht
end Mm
end Go.Proofs.Ytiiekgcjilelpaa
