/- JM10. -/
import Derived.Test.YtiiekgcjilelpaaJM9p
set_option linter.unusedSimpArgs false
set_option linter.unusedVariables false
namespace Go.Proofs.Ytiiekgcjilelpaa
open Go.RowKit
namespace Mm
def emp:ByteArray:=⟨#[]⟩
def hasPre (m:Msg) (n:Int):Bool:=okB n 1 (m.f1==0&&m.f2==0) (fileB m.f1 m.f2)&&okB n 2 (m.d1==0&&m.d2==0) (fileB m.d1 m.d2)&&okB n 4 (eqS m.nm emp) (namedB m.nm)&&okB n 8 (eqS m.ot emp) (namedB m.ot)&&okB n 16 (m.mo==0) (twoB m.mo)&&okB n 32 (m.pl==0) (decide (m.pl≥0)&&decide (m.pl<8))&&okB n 64 (eqS m.da emp) (decide ((m.da.size:Int)≤64))&&okB n 128 (m.ve==0) (decide (m.ve≤1099511627775))
def hasB (m:Msg) (n:Int):Bool:=hasPre m n&&okB n 256 ((m.en.length:Int)==0) (entriesB m.en)
def headB (m:Msg):Bool:=decide (m.cl≥0)&&decide (m.cl<8)&&countB m.ss&&((countB m.sq&&!(m.ty==3))||((m.sq==0)&&(m.ty==3)))&&((countB m.bo&&!((m.ty==1)&&(m.kd==1)))||((m.bo==0)&&((m.ty==1)&&(m.kd==1))))
set_option maxRecDepth 100000 in
theorem mhas_c (ty cl ss sq bo kd er f1 f2 d1 d2:Int) (nm ot:ByteArray) (mo pl:Int) (da:ByteArray) (ve:Int) (en:List Ent) (v:Value) (nn:Int) (w:World) (hv:Es w v en):Calls Try.prog 210 #[.agg #[.int .i64 ty,.int .i64 cl,.int .u64 ss,.int .u64 sq,.int .u64 bo,.int .i64 kd,.int .i64 er,.int .i64 f1,.int .i64 f2,.int .i64 d1,.int .i64 d2,.string nm,.string ot,.int .i64 mo,.int .i64 pl,.string da,.int .u64 ve,v],.int .u16 nn] w fun e w'=>e=.returned (.bool (hasB (⟨ty,cl,ss,sq,bo,kd,er,f1,f2,d1,d2,nm,ot,mo,pl,da,ve,en⟩:Msg) nn))∧Ext w w':=
 sym_b (S:=⟨Try.prog,[F_file,F_named,F_two,F_entries,(248,inl ⟨Try.prog,[],[],noApp,labI.one,40⟩ [] Try.f248 false)],[E_file],noApp,labI.one,40⟩) (I:=labI) (L:=[]) (args:=[.agg [.v (.int .i64 ty),.v (.int .i64 cl),.v (.int .u64 ss),.v (.int .u64 sq),.v (.int .u64 bo),.v (.int .i64 kd),.v (.int .i64 er),.v (.int .i64 f1),.v (.int .i64 f2),.v (.int .i64 d1),.v (.int .i64 d2),.v (.string nm),.v (.string ot),.v (.int .i64 mo),.v (.int .i64 pl),.v (.string da),.v (.int .u64 ve),.obj 0],.one (.v (.int .u16 nn))]) (us:=[.agg #[.int .i64 ty,.int .i64 cl,.int .u64 ss,.int .u64 sq,.int .u64 bo,.int .i64 kd,.int .i64 er,.int .i64 f1,.int .i64 f2,.int .i64 d1,.int .i64 d2,.string nm,.string ot,.int .i64 mo,.int .i64 pl,.string da,.int .u64 ve,v],.int .u16 nn]) (e:=[v]) (mem:=[enS en]) (SyOk.mk' Try.mixed (F_file_ok (F_named_ok (F_two_ok (F_entries_ok (FnsOk.consI Try.call248 rfl Try.func248 (by kernel_rfl) (fun w=>SyOk.mk' Try.mixed (FnsOk.nil) (EqsOk.nil)) (fun w=>LpsOk.nil _) (FnsOk.nil)))))) (E_file_ok (EqsOk.nil))) Try.func210 (by kernel_rfl) (LpsOk.nil _) ⟨⟨[.int .i64 ty,.int .i64 cl,.int .u64 ss,.int .u64 sq,.int .u64 bo,.int .i64 kd,.int .i64 er,.int .i64 f1,.int .i64 f2,.int .i64 d1,.int .i64 d2,.string nm,.string ot,.int .i64 mo,.int .i64 pl,.string da,.int .u64 ve,v],⟨rfl,rfl,rfl,rfl,rfl,rfl,rfl,rfl,rfl,rfl,rfl,rfl,rfl,rfl,rfl,rfl,rfl,rfl,trivial⟩,rfl⟩,rfl,trivial⟩ (by kernel_rfl) (memOk_es1 hv) [(hasPre (⟨ty,cl,ss,sq,bo,kd,er,f1,f2,d1,d2,nm,ot,mo,pl,da,ve,en⟩:Msg) nn&&true)=true→entKS en=entKS en] (by kernel_rfl) (by kernel_rfl) ((mcons (fun _=>rfl) mnil))
def F_mhas:Nat×Fn2 Lab:=(210,fun us mem=>match us with|[.agg a0,.one a1]=>(match a0 with|[b0_0,b0_1,b0_2,b0_3,b0_4,b0_5,b0_6,b0_7,b0_8,b0_9,b0_10,b0_11,b0_12,b0_13,b0_14,b0_15,b0_16,.obj o_v]=>(match valP b0_0 with|some (.int .i64 ty)=>(match valP b0_1 with|some (.int .i64 cl)=>(match valP b0_2 with|some (.int .u64 ss)=>(match valP b0_3 with|some (.int .u64 sq)=>(match valP b0_4 with|some (.int .u64 bo)=>(match valP b0_5 with|some (.int .i64 kd)=>(match valP b0_6 with|some (.int .i64 er)=>(match valP b0_7 with|some (.int .i64 f1)=>(match valP b0_8 with|some (.int .i64 f2)=>(match valP b0_9 with|some (.int .i64 d1)=>(match valP b0_10 with|some (.int .i64 d2)=>(match valP b0_11 with|some (.string nm)=>(match valP b0_12 with|some (.string ot)=>(match valP b0_13 with|some (.int .i64 mo)=>(match valP b0_14 with|some (.int .i64 pl)=>(match valP b0_15 with|some (.string da)=>(match valP b0_16 with|some (.int .u64 ve)=>(match valP a1 with|some (.int .u16 nn)=>(match mem[o_v]? with|some ⟨.sl K_v (.ents en),_⟩=>some ([K_v=entKS en],svV (.bool (hasB (⟨ty,cl,ss,sq,bo,kd,er,f1,f2,d1,d2,nm,ot,mo,pl,da,ve,en⟩:Msg) nn)),none)|_=>none)|_=>none)|_=>none)|_=>none)|_=>none)|_=>none)|_=>none)|_=>none)|_=>none)|_=>none)|_=>none)|_=>none)|_=>none)|_=>none)|_=>none)|_=>none)|_=>none)|_=>none)|_=>none)|_=>none)|_=>none)
theorem F_mhas_ok {W0:World} {G:Nat→Prop} {F:Fns Lab} (ht:FnsOk Try.prog labI W0 G F):FnsOk Try.prog labI W0 G (F_mhas::F):=
 FnsOk.cons Try.call210 (fun args mem ps r mo h hp w e us hM ha=>by
  repeat' split at h
  all_goals first
   |(cases h;done)
   |skip
  simp only [Option.some.injEq,Prod.mk.injEq] at h
  obtain ⟨rfl,rfl,rfl⟩:=h
  simp only [allC_cons,allC_nil] at ha
  obtain ⟨u0,t0,rfl,hc0,u1,t1,rfl,hc1,rfl⟩:=ha
  obtain ⟨xs0,hxs0,rfl⟩:=hc0
  simp only [allIs_cons,allIs_nil] at hxs0
  obtain ⟨y0_0,s0_0,rfl,hb0_0,y0_1,s0_1,rfl,hb0_1,y0_2,s0_2,rfl,hb0_2,y0_3,s0_3,rfl,hb0_3,y0_4,s0_4,rfl,hb0_4,y0_5,s0_5,rfl,hb0_5,y0_6,s0_6,rfl,hb0_6,y0_7,s0_7,rfl,hb0_7,y0_8,s0_8,rfl,hb0_8,y0_9,s0_9,rfl,hb0_9,y0_10,s0_10,rfl,hb0_10,y0_11,s0_11,rfl,hb0_11,y0_12,s0_12,rfl,hb0_12,y0_13,s0_13,rfl,hb0_13,y0_14,s0_14,rfl,hb0_14,y0_15,s0_15,rfl,hb0_15,y0_16,s0_16,rfl,hb0_16,y0_17,s0_17,rfl,hb0_17,rfl⟩:=hxs0
  obtain rfl:=valP_is (by assumption) hb0_0
  obtain rfl:=valP_is (by assumption) hb0_1
  obtain rfl:=valP_is (by assumption) hb0_2
  obtain rfl:=valP_is (by assumption) hb0_3
  obtain rfl:=valP_is (by assumption) hb0_4
  obtain rfl:=valP_is (by assumption) hb0_5
  obtain rfl:=valP_is (by assumption) hb0_6
  obtain rfl:=valP_is (by assumption) hb0_7
  obtain rfl:=valP_is (by assumption) hb0_8
  obtain rfl:=valP_is (by assumption) hb0_9
  obtain rfl:=valP_is (by assumption) hb0_10
  obtain rfl:=valP_is (by assumption) hb0_11
  obtain rfl:=valP_is (by assumption) hb0_12
  obtain rfl:=valP_is (by assumption) hb0_13
  obtain rfl:=valP_is (by assumption) hb0_14
  obtain rfl:=valP_is (by assumption) hb0_15
  obtain rfl:=valP_is (by assumption) hb0_16
  obtain rfl:=valP_is (by assumption) (show PV.is e _ _ from hc1)
  refine (mhas_c _ _ _ _ _ _ _ _ _ _ _ _ _ _ _ _ _ _ _ _ w ?_).mono fun x w' ⟨h1,h2⟩=>⟨_,h1,rfl,h2⟩
  all_goals first
   |(exact es_of hM (by assumption) (by assumption) (hp _ (by simp)))
   |(exact hp _ (by simp))) ht
set_option maxRecDepth 100000 in
theorem headed_c (ty cl ss sq bo kd er f1 f2 d1 d2:Int) (nm ot:ByteArray) (mo pl:Int) (da:ByteArray) (ve:Int) (en:List Ent) (v:Value) (w:World) (hv:Es w v en):Calls Try.prog 209 #[.agg #[.int .i64 ty,.int .i64 cl,.int .u64 ss,.int .u64 sq,.int .u64 bo,.int .i64 kd,.int .i64 er,.int .i64 f1,.int .i64 f2,.int .i64 d1,.int .i64 d2,.string nm,.string ot,.int .i64 mo,.int .i64 pl,.string da,.int .u64 ve,v]] w fun e w'=>e=.returned (.bool (headB (⟨ty,cl,ss,sq,bo,kd,er,f1,f2,d1,d2,nm,ot,mo,pl,da,ve,en⟩:Msg)))∧Ext w w':=
 sym_b (S:=⟨Try.prog,[F_count],[],noApp,labI.one,40⟩) (I:=labI) (L:=[]) (args:=[.agg [.v (.int .i64 ty),.v (.int .i64 cl),.v (.int .u64 ss),.v (.int .u64 sq),.v (.int .u64 bo),.v (.int .i64 kd),.v (.int .i64 er),.v (.int .i64 f1),.v (.int .i64 f2),.v (.int .i64 d1),.v (.int .i64 d2),.v (.string nm),.v (.string ot),.v (.int .i64 mo),.v (.int .i64 pl),.v (.string da),.v (.int .u64 ve),.obj 0]]) (us:=[.agg #[.int .i64 ty,.int .i64 cl,.int .u64 ss,.int .u64 sq,.int .u64 bo,.int .i64 kd,.int .i64 er,.int .i64 f1,.int .i64 f2,.int .i64 d1,.int .i64 d2,.string nm,.string ot,.int .i64 mo,.int .i64 pl,.string da,.int .u64 ve,v]]) (e:=[v]) (mem:=[enS en]) (SyOk.mk' Try.mixed (F_count_ok (FnsOk.nil)) (EqsOk.nil)) Try.func209 (by kernel_rfl) (LpsOk.nil _) ⟨⟨[.int .i64 ty,.int .i64 cl,.int .u64 ss,.int .u64 sq,.int .u64 bo,.int .i64 kd,.int .i64 er,.int .i64 f1,.int .i64 f2,.int .i64 d1,.int .i64 d2,.string nm,.string ot,.int .i64 mo,.int .i64 pl,.string da,.int .u64 ve,v],⟨rfl,rfl,rfl,rfl,rfl,rfl,rfl,rfl,rfl,rfl,rfl,rfl,rfl,rfl,rfl,rfl,rfl,rfl,trivial⟩,rfl⟩,trivial⟩ (by kernel_rfl) (memOk_es1 hv) [] (by kernel_rfl) (by kernel_rfl) (by simp)
def F_headed:Nat×Fn2 Lab:=(209,fun us mem=>match us with|[.agg a0]=>(match a0 with|[b0_0,b0_1,b0_2,b0_3,b0_4,b0_5,b0_6,b0_7,b0_8,b0_9,b0_10,b0_11,b0_12,b0_13,b0_14,b0_15,b0_16,.obj o_v]=>(match valP b0_0 with|some (.int .i64 ty)=>(match valP b0_1 with|some (.int .i64 cl)=>(match valP b0_2 with|some (.int .u64 ss)=>(match valP b0_3 with|some (.int .u64 sq)=>(match valP b0_4 with|some (.int .u64 bo)=>(match valP b0_5 with|some (.int .i64 kd)=>(match valP b0_6 with|some (.int .i64 er)=>(match valP b0_7 with|some (.int .i64 f1)=>(match valP b0_8 with|some (.int .i64 f2)=>(match valP b0_9 with|some (.int .i64 d1)=>(match valP b0_10 with|some (.int .i64 d2)=>(match valP b0_11 with|some (.string nm)=>(match valP b0_12 with|some (.string ot)=>(match valP b0_13 with|some (.int .i64 mo)=>(match valP b0_14 with|some (.int .i64 pl)=>(match valP b0_15 with|some (.string da)=>(match valP b0_16 with|some (.int .u64 ve)=>(match mem[o_v]? with|some ⟨.sl K_v (.ents en),_⟩=>some ([K_v=entKS en],svV (.bool (headB (⟨ty,cl,ss,sq,bo,kd,er,f1,f2,d1,d2,nm,ot,mo,pl,da,ve,en⟩:Msg))),none)|_=>none)|_=>none)|_=>none)|_=>none)|_=>none)|_=>none)|_=>none)|_=>none)|_=>none)|_=>none)|_=>none)|_=>none)|_=>none)|_=>none)|_=>none)|_=>none)|_=>none)|_=>none)|_=>none)|_=>none)
theorem F_headed_ok {W0:World} {G:Nat→Prop} {F:Fns Lab} (ht:FnsOk Try.prog labI W0 G F):FnsOk Try.prog labI W0 G (F_headed::F):=
 FnsOk.cons Try.call209 (fun args mem ps r mo h hp w e us hM ha=>by
  repeat' split at h
  all_goals first
   |(cases h;done)
   |skip
  simp only [Option.some.injEq,Prod.mk.injEq] at h
  obtain ⟨rfl,rfl,rfl⟩:=h
  simp only [allC_cons,allC_nil] at ha
  obtain ⟨u0,t0,rfl,hc0,rfl⟩:=ha
  obtain ⟨xs0,hxs0,rfl⟩:=hc0
  simp only [allIs_cons,allIs_nil] at hxs0
  obtain ⟨y0_0,s0_0,rfl,hb0_0,y0_1,s0_1,rfl,hb0_1,y0_2,s0_2,rfl,hb0_2,y0_3,s0_3,rfl,hb0_3,y0_4,s0_4,rfl,hb0_4,y0_5,s0_5,rfl,hb0_5,y0_6,s0_6,rfl,hb0_6,y0_7,s0_7,rfl,hb0_7,y0_8,s0_8,rfl,hb0_8,y0_9,s0_9,rfl,hb0_9,y0_10,s0_10,rfl,hb0_10,y0_11,s0_11,rfl,hb0_11,y0_12,s0_12,rfl,hb0_12,y0_13,s0_13,rfl,hb0_13,y0_14,s0_14,rfl,hb0_14,y0_15,s0_15,rfl,hb0_15,y0_16,s0_16,rfl,hb0_16,y0_17,s0_17,rfl,hb0_17,rfl⟩:=hxs0
  obtain rfl:=valP_is (by assumption) hb0_0
  obtain rfl:=valP_is (by assumption) hb0_1
  obtain rfl:=valP_is (by assumption) hb0_2
  obtain rfl:=valP_is (by assumption) hb0_3
  obtain rfl:=valP_is (by assumption) hb0_4
  obtain rfl:=valP_is (by assumption) hb0_5
  obtain rfl:=valP_is (by assumption) hb0_6
  obtain rfl:=valP_is (by assumption) hb0_7
  obtain rfl:=valP_is (by assumption) hb0_8
  obtain rfl:=valP_is (by assumption) hb0_9
  obtain rfl:=valP_is (by assumption) hb0_10
  obtain rfl:=valP_is (by assumption) hb0_11
  obtain rfl:=valP_is (by assumption) hb0_12
  obtain rfl:=valP_is (by assumption) hb0_13
  obtain rfl:=valP_is (by assumption) hb0_14
  obtain rfl:=valP_is (by assumption) hb0_15
  obtain rfl:=valP_is (by assumption) hb0_16
  refine (headed_c _ _ _ _ _ _ _ _ _ _ _ _ _ _ _ _ _ _ _ w ?_).mono fun x w' ⟨h1,h2⟩=>⟨_,h1,rfl,h2⟩
  all_goals first
   |(exact es_of hM (by assumption) (by assumption) (hp _ (by simp)))
   |(exact hp _ (by simp))) ht
end Mm
end Go.Proofs.Ytiiekgcjilelpaa
