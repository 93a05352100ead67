/- H9. -/
import Derived.Test.YtiiekgcjilelpaaH8p
set_option linter.unusedSimpArgs false
set_option linter.unusedVariables false
namespace Go.Proofs.Ytiiekgcjilelpaa
open Go.RowKit
section
variable {W0:World} {G:Nat→Prop} {w w':World} {e:Env} {mem:Mem Td}
theorem views_nil:∀ {l:List CD} {k:Nat} {ps:List PV},viewsK l k=(ps,[])→∀ k',viewsK l k'=(ps,[])
 |[],_,_,h,_=>h
 |.v x::r,k,ps,h,k'=>by
  simp only [viewsK,Prod.mk.injEq] at h ⊢
  obtain ⟨h1,h2⟩:=h
  have:=views_nil (l:=r) (k:=k) (ps:=(viewsK r k).1) (by rw [← h2]) k'
  rw [this]
  exact ⟨h1,rfl⟩
 |.bs l::r,k,ps,h,_=>by simp [viewsK] at h
 |.ns l::r,k,ps,h,_=>by simp [viewsK] at h
theorem opLoadD_mono {t:TypeId} {us:List CV} {m m':Mem Td} {ps:List Prop} {r:SV} (h:opLoadD t us m=some (ps,r,none)) (hl:MLe m m'):opLoadD t us m'=some (ps,r,none):=by
 unfold opLoadD at h ⊢
 split at h
 ·split at h
  ·rename_i hm
   simp only [hl _ _ hm (by simp)]
   exact h
  ·cases h
 ·rename_i i sz idx off
  split at h
  ·rename_i hm
   simp only [hl _ _ hm (by simp)]
   exact h
  ·rename_i hm
   simp only [hl _ _ hm (by simp)]
   exact h
  ·rename_i hm
   simp only [hl _ _ hm (by simp)]
   split at h
   ·rename_i h1
    try simp only [h1]
    split at h
    ·simp at h
    ·rename_i h2
     try simp only [h2]
     split at h
     ·rename_i h3
      try simp only [h3]
      exact h
     ·split at h
      ·split at h
       ·simp at h
       ·cases h
      ·cases h
   ·cases h
  ·rename_i hm
   simp only [hl _ _ hm (by simp)]
   split at h
   ·rename_i m hwt
    try simp only [hwt]
    split at h
    ·rename_i pvs hb hv
     have hv':=views_nil hv m'.length
     simp only [hb,hv']
     exact h
    ·simp at h
    ·cases h
   ·rename_i hwt
    try simp only [hwt]
    split at h
    ·rename_i h1 h2
     try simp only [h1,h2]
     split at h
     ·rename_i h3
      try simp only [h3]
      exact h
     ·cases h
    ·split at h
     ·simp at h
     ·cases h
    ·split at h
     ·simp at h
     ·cases h
    ·cases h
  ·rename_i hm
   simp only [hl _ _ hm (by simp)]
   exact h
  ·rename_i hm
   simp only [hl _ _ hm (by simp)]
   exact h
  ·rename_i n1 n2 n3 n4 n5
   split at h
   ·rename_i l hb h2
    have hb':=bytesP_mono hl hb
    have key:∀ en,m[i]? =some en→en.ob≠.dead→m'[i]? =some en:=fun en h1 h2=>hl _ _ h1 h2
    unfold bytesP at hb
    simp only at hb
    split at hb
    all_goals first
     |(cases hb;done)
     |(rename_i hm;simp only [key _ hm (by simp),hb',h2];exact h)
   ·cases h
 ·cases h
theorem opsD_mono (op:Op) (us:List CV) (m m':Mem Td) (ps:List Prop) (r:SV) (h:opsD op us m=some (ps,r,none)) (hl:MLe m m'):opsD op us m'=some (ps,r,none):=by
 unfold opsD at h ⊢
 split at h
 ·unfold opAllocD at h
  split at h
  ·split at h<;>simp at h
  ·cases h
 ·exact opLoadD_mono h hl
 ·split at h
  ·rename_i q hq
   cases h
   unfold opSetR at hq
   repeat' split at hq
   all_goals first|(cases hq;done)|(simp at hq;done)
  ·split at h
   ·rename_i q hq
    cases h
    unfold opSetT at hq
    repeat' split at hq
    all_goals first|(cases hq;done)|(simp at hq;done)
   ·split at h
    ·rename_i q hq
     cases h
     unfold opSetC at hq
     repeat' split at hq
     all_goals first|(cases hq;done)|(simp at hq;done)
    ·unfold opStoreD at h
     repeat' split at h
     all_goals first|(cases h;done)|(simp at h;done)
 ·unfold opAddrD at h ⊢
  split at h
  ·split at h
   ·rename_i hn hv hs
    simp only [lenD_mono hl hn,hv,hs]
    exact h
   ·cases h
  ·split at h
   ·rename_i hn hv hs
    simp only [lenD_mono hl hn,hv,hs]
    exact h
   ·cases h
  ·cases h
 ·split at h
  ·rename_i ht
   try simp only [ht]
   split at h
   ·rename_i hw
    unfold opPartD at h
    repeat' split at h
    all_goals first|(cases h;done)|(simp at h;done)
   ·rename_i hw
    try simp only [hw]
    exact h
  ·rename_i ht
   try simp only [ht]
   exact opsR_mono _ us m m' ps r h hl
 ·split at h
  ·rename_i ht
   try simp only [ht]
   exact h
  ·rename_i ht
   try simp only [ht]
   split at h
   ·rename_i ht2
    try simp only [ht2]
    exact h
   ·rename_i ht2 ht3
    try simp only [ht2,ht3]
    exact opSliceT_mono h hl
   ·rename_i ht2 ht3
    try simp only [ht2,ht3]
    split at h
    ·rename_i q hq
     cases h
     rw [opsR_mono _ us m m' ps r hq hl]
    ·unfold opSS at h
     repeat' split at h
     all_goals first|(cases h;done)|(simp at h;done)
 ·split at h
  ·rename_i ht3
   try simp only [ht3]
   exact opSliceT_mono h hl
  ·rename_i ht3
   try simp only [ht3]
   split at h
   ·rename_i q hq
    cases h
    rw [opsR_mono _ us m m' ps r hq hl]
   ·unfold opRR at h
    repeat' split at h
    all_goals first|(cases h;done)|(simp at h;done)
 ·split at h
  ·rename_i ht
   try simp only [ht]
   exact opConvW_mono h hl
  ·rename_i ht
   try simp only [ht]
   exact opsR_mono _ us m m' ps r h hl
 ·unfold opCopyD at h
  repeat' split at h
  all_goals first|(cases h;done)|(simp at h;done)
 ·unfold opLookM at h ⊢
  split at h
  ·split at h
   ·rename_i h1 hm h3 h4
    simp only [hl _ _ hm (by simp),h1,h3,h4]
    exact h
   ·cases h
  ·cases h
 ·unfold opPutM at h
  repeat' split at h
  all_goals first|(cases h;done)|(simp at h;done)
 ·unfold opMakeM at h
  repeat' split at h
  all_goals first|(cases h;done)|(simp at h;done)
 ·unfold opDelM at h
  repeat' split at h
  all_goals first|(cases h;done)|(simp at h;done)
 ·split at h
  ·rename_i q hq
   cases h
   unfold opClearR at hq
   repeat' split at hq
   all_goals first|(cases hq;done)|(simp at hq;done)
  ·unfold opClearT at h
   repeat' split at h
   all_goals first|(cases h;done)|(simp at h;done)
 ·unfold opArrD at h ⊢
  split at h
  ·split at h
   ·rename_i hn ht
    simp only [lenD_mono hl hn,ht]
    exact h
   ·cases h
  ·cases h
 ·split at h
  ·unfold opMakeD at h
   repeat' split at h
   all_goals first|(cases h;done)|(simp at h;done)
  ·rename_i ht
   try simp only [ht]
   split at h
   ·rename_i q hq
    cases h
    rw [opsR_mono _ us m m' ps r hq hl]
   ·exact (opMakeB_some h).elim
 ·exact h
 ·split at h
  ·unfold opLitD at h
   repeat' split at h
   all_goals first|(cases h;done)|(simp at h;done)
  ·exact opsR_mono _ us m m' ps r h hl
 ·split at h
  ·split at h
   ·rename_i t hts ht
    try simp only [ht]
    unfold opLenD at h ⊢
    split at h
    ·split at h
     ·rename_i hn hs
      simp only [lenD_mono hl hn,hs]
      exact h
     ·cases h
    ·cases h
   ·rename_i t hts ht
    try simp only [ht]
    exact opsR_mono _ us m m' ps r h hl
  ·cases h
 ·split at h
  ·rename_i ht
   try simp only [ht]
   unfold opNilM at h ⊢
   split at h
   ·split at h
    ·rename_i h1 hm
     simp only [hl _ _ hm (by simp),h1]
     exact h
    ·rename_i h1 hm
     simp only [hl _ _ hm (by simp),h1]
     exact h
    ·cases h
   ·cases h
  ·rename_i ht
   try simp only [ht]
   unfold opNilD at h ⊢
   split at h
   ·rename_i hb
    rw [Bool.and_eq_true] at hb
    rw [hb.1,ptrNil_mono hl hb.2]
    exact h
   ·cases h
 ·exact opsR_mono _ us m m' ps r h hl
theorem opsD_ok (op:Op) (args:List CV) (mem:Mem Td) (ps:List Prop) (r:SV) (mo:Option (Mem Td)) (h:opsD op args mem=some (ps,r,mo)) (hp:∀ p∈ps,p) (o:Oper) (ρ:Operand→Value) (w:World) (e:Env) (ho:o.op=op) (hM:MemOk W0 G Id' w e mem)
  (ha:AllC e args (op.operands.toList.map ρ)):givesUpon Try.prog (fun v w'=>OutIs Id' W0 G w e r v w' mo) ((execOp ρ o).run Try.prog w):=by
 have hT:opsR op args mem=some (ps,r,mo)→givesUpon Try.prog (fun v w'=>OutIs Id' W0 G w e r v w' mo) ((execOp ρ o).run Try.prog w):=fun h=>opsR_ok op args mem ps r mo h hp o ρ w e ho hM ha
 unfold opsD at h
 split at h
 ·exact opAllocD_ok h ho hM
 ·rename_i t x
  exact opLoadD_ok h hp ho hM (by simpa [Op.operands] using ha)
 ·rename_i t x y
  split at h
  ·rename_i q hq
   cases h
   exact opSetR_ok hq ho hM (by simpa [Op.operands] using ha)
  ·split at h
   ·rename_i q hq
    cases h
    exact opSetT_ok hq ho hM (by simpa [Op.operands] using ha)
   ·split at h
    ·rename_i q hq
     cases h
     exact opSetC_ok hq ho hM (by simpa [Op.operands] using ha)
    ·exact opStoreD_ok h hp ho hM (by simpa [Op.operands] using ha)
 ·rename_i t x y
  exact opAddrD_ok h hp ho hM (by simpa [Op.operands] using ha)
 ·rename_i t x
  split at h
  ·split at h
   ·exact opPartD_ok h hp ho hM (by simpa [Op.operands] using ha)
   ·exact opWin_ok (hi:=none) h hp ho (by simpa [Op.operands] using ha)
  ·exact hT h
 ·rename_i t x y
  split at h
  ·exact opWin_ok (hi:=some y) h hp ho (by simpa [Op.operands] using ha)
  ·split at h
   ·exact opWinA_ok h hp ho (by simpa [Op.operands] using ha)
   ·exact opSliceT_ok (lo:=none) (hi:=some y) h hp ho hM (by rw [ho];exact ha)
   ·split at h
    ·rename_i q hq
     cases h
     exact hT hq
    ·exact opSS_ok h hp ho hM (by simpa [Op.operands] using ha)
 ·rename_i t x y
  split at h
  ·exact opSliceT_ok (lo:=some y) (hi:=none) h hp ho hM (by rw [ho];exact ha)
  ·split at h
   ·rename_i q hq
    cases h
    exact hT hq
   ·exact opRR_ok h hp ho hM (by simpa [Op.operands] using ha)
 ·rename_i s d x
  split at h
  ·exact opConvW_ok h hp ho hM (by simpa [Op.operands] using ha)
  ·exact hT h
 ·rename_i xs ts
  exact opCopyD_ok h hp ho hM (by rw [ho];exact ha)
 ·rename_i t x y
  exact opLookM_ok h ho hM (by simpa [Op.operands] using ha)
 ·rename_i t x y z
  exact opPutM_ok h ho hM (by simpa [Op.operands] using ha)
 ·rename_i t
  exact opMakeM_ok h ho hM
 ·rename_i xs ts
  exact opDelM_ok h ho hM (by rw [ho];exact ha)
 ·rename_i xs ts
  split at h
  ·rename_i q hq
   cases h
   exact opClearR_ok hq hp ho hM (by rw [ho];exact ha)
  ·exact opClearT_ok h hp ho hM (by rw [ho];exact ha)
 ·rename_i t x
  exact opArrD_ok h hp ho hM (by simpa [Op.operands] using ha)
 ·rename_i t x y
  split at h
  ·rename_i ht
   obtain rfl:=eqb_eq.1 ht
   exact opMakeD_ok h hp ho hM (by simpa [Op.operands] using ha)
  ·split at h
   ·rename_i q hq
    cases h
    exact hT hq
   ·exact opMakeB_ok h hp ho hM (by simpa [Op.operands] using ha)
 ·rename_i t prts
  split at h
  ·rename_i x y hps
   have e1:prts=#[(0,x),(1,y)]:=by rw [← Array.toArray_toList (xs:=prts),hps]
   subst e1
   exact opBuildD_ok h hp ho hM (by simpa [Op.operands] using ha)
  ·cases h
 ·rename_i t prts
  split at h
  ·rename_i ht hl
   have:∃ x,prts.toList=[(0,x)]:=by
    unfold isLen1 at hl
    split at hl
    ·rename_i x hx;exact ⟨x,hx⟩
    ·cases hl
   obtain ⟨x,hps⟩:=this
   have e1:prts=#[(0,x)]:=by rw [← Array.toArray_toList (xs:=prts),hps]
   subst e1
   exact opLitD_ok h hp ho hM (by simpa [Op.operands] using ha)
  ·exact hT h
 ·rename_i xs ts
  split at h
  ·rename_i t hts
   split at h
   ·exact opLenD_ok (by rw [hts];exact h) ho hM (by rw [ho];exact ha)
   ·exact hT h
  ·cases h
 ·rename_i b t x y ty'
  split at h
  ·exact opNilM_ok h ho hM (by simpa [Op.operands] using ha)
  ·exact opNilD_ok h ho hM (by simpa [Op.operands] using ha)
 ·exact hT h
theorem appD_at {t:TypeId} {u v:CV} {mem m':Mem Td} {ps:List Prop} {r:SV} (h:appD t [u,v] mem=some (ps,r,some m')):∀ j en,mem[j]? =some en→(∀ p,u=.one p→placeP p≠some j)→m'[j]? =some en:=by
 intro j en hj hne
 unfold appD at h
 split at h
 ·rename_i i q he
  simp only [List.cons.injEq,and_true] at he
  obtain ⟨rfl,rfl⟩:=he
  have hij:i≠j:=fun e=>hne _ rfl (by rw [e];rfl)
  have fin:∀ x y:En Td,(mem.set i x++[y])[j]? =some en:=fun x y=>by
   rw [List.getElem?_append_left (by rw [List.length_set];exact (List.getElem?_eq_some_iff.1 hj).1),List.getElem?_set_ne hij];exact hj
  split at h
  ·split at h
   ·simp only [Option.some.injEq,Prod.mk.injEq] at h
    obtain ⟨_,_,rfl⟩:=h
    exact fin _ _
   ·cases h
  ·split at h
   ·simp only [Option.some.injEq,Prod.mk.injEq] at h
    obtain ⟨_,_,rfl⟩:=h
    exact fin _ _
   ·cases h
  ·cases h
 ·cases h
theorem appAll_at {t:TypeId} {u v:CV} {mem m':Mem Td} {ps:List Prop} {r:SV} (h:appAll t [u,v] mem=some (ps,r,some m')):∀ j en,mem[j]? =some en→(∀ p,u=.one p→placeP p≠some j)→m'[j]? =some en:=by
 unfold appAll at h
 split at h
 ·exact opAppR_at h
 ·split at h
  ·split at h
   ·rename_i q hq
    cases h
    exact appX_at hq
   ·exact appD_at h
  ·exact appT_at (hx:=hardDk) h
theorem opsR_lit {t:TypeId} {k:Nat} {qs:Array (Nat×Operand)} {us:List CV} {m:Mem Td} (hk:k≠1):opsR (.buildSlice t k qs) us m=opsT (.buildSlice t k qs) us m:=by
 match k,hk with
 |0,_=>rfl
 |1,hk=>exact absurd rfl hk
 |n+2,_=>rfl
theorem dkHo_ok:HoOk Try.prog dkHo Id':=
 ⟨fun W0 G t args mem ps r m' h hp ty w e us hM ha=>(by
  have h:appAll t args mem=some (ps,r,some m'):=h
  unfold appAll at h
  split at h
  ·exact opAppR_ok h hp ty hM ha
  ·split at h
   ·split at h
    ·rename_i q hq
     cases h
     exact appX_ok hq hp ty hM ha
    ·exact appD_ok h hp ty hM ha
   ·exact appT_ok (hx:=hardDk) t args mem ps r m' h hp ty w e us hM ha),
 fun W0 G op args mem ps r mo h hp o ρ w e ho hM ha=>givesUpon_mono (fun v w' hv=>by cases mo<;>exact hv) (opsD_ok op args mem ps r mo h hp o ρ w e ho hM ha),
 fun op args m m' ps r h hl=>opsD_mono op args m m' ps r h hl,
 fun t k qs args mem ps r m' hn h=>(by
  have h:opsD (.buildSlice t k qs) args mem=some (ps,r,some m'):=h
  by_cases hk:k=1
  ·subst hk
   simp only [opsD] at h
   split at h
   ·unfold opLitD at h
    split at h
    ·split at h
     ·simp only [Option.some.injEq,Prod.mk.injEq] at h
      obtain ⟨_,_,rfl⟩:=h
      exact Keep.push _ _
     ·cases h
    ·split at h
     ·rename_i hm _
      simp [allB,roC,roP,placeP,hm] at hn
     ·rename_i hm _
      simp [allB,roC,roP,placeP,hm] at hn
     ·simp only [Option.some.injEq,Prod.mk.injEq] at h
      obtain ⟨_,_,rfl⟩:=h
      exact Keep.push _ _
     ·cases h
    ·split at h
     ·rename_i hm _ _
      simp [allB,roC,roP,placeP,hm] at hn
     ·simp only [Option.some.injEq,Prod.mk.injEq] at h
      obtain ⟨_,_,rfl⟩:=h
      exact Keep.push _ _
     ·cases h
    ·cases h
   ·unfold opsR at h
    simp only at h
    split at h
    ·unfold opLitR at h
     repeat' split at h
     all_goals first
      |(cases h;done)
      |(simp only [Option.some.injEq,Prod.mk.injEq] at h;obtain ⟨_,_,rfl⟩:=h;exact Keep.push _ _)
    ·exact (thHo_ok (J:=dkI) hardDk).opb t 1 qs args mem ps r m' hn h
  ·have h':opsT (.buildSlice t k qs) args mem=some (ps,r,some m'):=by
    unfold opsD at h
    split at h
    all_goals first
     |(rename_i heq;cases heq;exact absurd rfl hk)
     |(rename_i heq;cases heq;done)
     |exact (opsR_lit hk).symm.trans h
   exact (thHo_ok (J:=dkI) hardDk).opb t k qs args mem ps r m' hn h'),
 fun op args mem ps r m' hn h=>(by
  cases op with
  |alloc t=>
   have h:opAllocD t args mem=some (ps,r,some m'):=h
   unfold opAllocD at h
   split at h
   ·split at h
    ·simp only [Option.some.injEq,Prod.mk.injEq] at h
     obtain ⟨_,_,rfl⟩:=h
     exact Keep.push _ _
    ·cases h
   ·cases h
  |load t x=>
   have h:opLoadD t args mem=some (ps,r,some m'):=h
   unfold opLoadD at h
   repeat' split at h
   all_goals first
    |(cases h;done)
    |(simp at h;done)
    |(simp only [Option.some.injEq,Prod.mk.injEq] at h;obtain ⟨_,_,rfl⟩:=h;exact Keep.push _ _)
  |_=>simp [newOp] at hn),
 fun t u v mem ps r m' h=>appAll_at h,
 fun t x y p v mem ps r m' hn h=>(by
  have h:(match opSetR t [.one p,v] mem with|some q=>some q|none=>(match opSetT t [.one p,v] mem with|some q=>some q|none=>(match opSetC t [.one p,v] mem with|some q=>some q|none=>opStoreD t [.one p,v] mem)))=some (ps,r,some m'):=h
  split at h
  ·rename_i q hq
   cases h
   exact opSetR_ost hq
  ·split at h
   ·rename_i q hq
    cases h
    exact opSetT_ost hq
   ·split at h
    ·rename_i q hq
     cases h
     exact opSetC_ost hq
    ·exact opStoreD_ost hn h)⟩
end
end Go.Proofs.Ytiiekgcjilelpaa
