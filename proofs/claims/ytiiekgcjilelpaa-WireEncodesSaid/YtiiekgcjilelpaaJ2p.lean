/- H8 H9 T19 T20 H13 HG J2. -/
import Derived.Test.YtiiekgcjilelpaaHKp
import Derived.Test.YtiiekgcjilelpaaHWp
import Derived.Test.YtiiekgcjilelpaaHXp
import Derived.Test.YtiiekgcjilelpaaHMp
import Derived.Test.YtiiekgcjilelpaaV2p
import Derived.Test.YtiiekgcjilelpaaT18p
open List renaming getElem?_eq_getElem → zaa, getElem?_eq_some_iff → zab, mem_append_right → zag, mem_append_left → zah, mem_of_getElem? → zaj, mem_cons_of_mem → zak, mem_cons_self → zal
open Array renaming toArray_toList → zbq
open Bool renaming and_eq_true → zbs
set_option linter.unusedSimpArgs false
set_option linter.unusedVariables false
namespace Go.Proofs.Ytiiekgcjilelpaa
open Go.RowKit
section
variable {W0:World} {G:Nat→Prop} {w w':World} {e:Env} {mem:Mem Td}
def tabT (t t1 k:Nat):Bool:=(eqb t 153&&(eqb t1 37&&eqb k 0))||((match wqT t with|some u=>eqb u t1|none=>false)&&eqb k 1)
def appD (t:TypeId) (us:List CV) (mem:Mem Td):OpD:=none
theorem appD_ok {t:TypeId} {us:List CV} {ps:List Prop} {r:SV} {m':Mem Td} (h:appD t us mem=some (ps,r,some m')) (hp:∀ p∈ps,p) (ty:TypeId) {e:Env} {vs:List Value} (hM:MemOk W0 G Id' w e mem) (ha:AllC e us vs):
  ∃ e' v w',Grows e e'∧(Builtin.append_ #[t,t] ty vs.toArray).run Try.prog w=.ok v w'∧r.is e' v∧MemOk W0 G Id' w' e' m':=by
 unfold appD at h
 cases h
def mineT (t:TypeId):Bool:=eqb t 247||(eqb t 153||((match wqT t with|some _=>true|none=>false)||eqb t 246))
def mineL (t:TypeId):Bool:=(isRow t||(eqb t 229||(eqb t 108||(eqb t 104||eqb t 75))))||mineT t||(eqb t 32||(eqb t 138||eqb t 159))
def yqn (t:TypeId) (us:List CV) (mem:Mem Td):OpD:=match isRow t with
 |true=>ypk t us mem
 |false=>(match mineT t with
  |true=>(match appX t us mem with
   |some q=>some q
   |none=>appD t us mem)
  |false=>appT yag t us mem)
def isWq (t:TypeId):Bool:=match wqT t with|some _=>true|none=>false
def isLen1:List (Nat×Operand)→Bool
 |[(0,_)]=>true
 |_=>false
def opsD (op:Op) (us:List CV) (mem:Mem Td):OpD:=match op with
 |.alloc t=>ygm t us mem
 |.load t _=>yfz t us mem
 |.store t _ _=>(match yka t us mem with
  |some q=>some q
  |none=>(match yj9 t us mem with
   |some q=>some q
   |none=>(match ykb t us mem with
    |some q=>some q
    |none=>yfd t us mem)))
 |.indexAddr t _ _=>ynr t us mem
 |.slice t x none none none=>(match eqb t 251 with
  |true=>(match isWin us with
   |false=>ynl t us mem
   |true=>opWin t false us)
  |false=>opsR op us mem)
 |.slice t x none (some y) none=>(match eqb t 251 with
  |true=>opWin t true us
  |false=>(match eqb t 333,isWq t with
   |true,_=>opWinA t us
   |false,true=>yfe t false true us mem
   |false,false=>(match opsR op us mem with
    |some q=>some q
    |none=>opSS t us mem)))
 |.slice t x (some y) none none=>(match isWq t with
  |true=>yfe t true false us mem
  |false=>(match opsR op us mem with
   |some q=>some q
   |none=>opRR t us mem))
 |.convert s d x=>(match isWinP us with
  |true=>yif s d us mem
  |false=>opsR op us mem)
 |.call { callee:=.builtin .copy,args:=_,argTypes:=ts }=>ynp ts.toList us mem
 |.lookup t _ _ false=>yno t us mem
 |.mapUpdate t _ _ _=>yto t us mem
 |.makeMap t none=>ynm t us mem
 |.call { callee:=.builtin .delete,args:=_,argTypes:=ts }=>ytt ts.toList us mem
 |.call { callee:=.builtin .clear,args:=_,argTypes:=ts }=>(match yji ts.toList us mem with
  |some q=>some q
  |none=>yjh ts.toList us mem)
 |.sliceToArrayPointer t _=>ytu t us mem
 |.makeSlice t _ _=>(match eqb t 246 with
  |true=>ynn t us mem
  |false=>(match opsR op us mem with
   |some q=>some q
   |none=>ykc t us mem))
 |.build t ps=>(match ps.toList with
  |[(0,_),(1,_)]=>ynq t us mem
  |_=>none)
 |.buildSlice t 1 ps=>(match mineT t,isLen1 ps.toList with
  |true,true=>ypi t us mem
  |_,_=>opsR op us mem)
 |.call { callee:=.builtin .len,args:=_,argTypes:=ts }=>(match ts.toList with
  |[t]=>(match mineL t with
   |true=>yts [t] us mem
   |false=>opsR op us mem)
  |_=>none)
 |.binOp b t _ _ _=>(match isMapT t with
  |true=>ytp b t us mem
  |false=>ytq b t us mem)
 |_=>opsR op us mem
def dkHo:Ho Td:=⟨yqn,opsD,yaj,true,[]⟩
end
section
variable {W0:World} {G:Nat→Prop} {w w':World} {e:Env} {mem:Mem Td}
theorem yot:∀ {l:List CD} {k:Nat} {ps:List PV},yca l k=(ps,[])→∀ k',yca l k'=(ps,[])
 |[],_,_,h,_=>h
 |.v x::r,k,ps,h,k'=>by
  simp only [yca,Prod.mk.injEq] at h ⊢
  obtain ⟨h1,h2⟩:=h
  have:=yot (l:=r) (k:=k) (ps:=(yca r k).1) (by rw [← h2]) k'
  rw [this]
  exact ⟨h1,rfl⟩
 |.bs l::r,k,ps,h,_=>by simp [yca] at h
 |.ns l::r,k,ps,h,_=>by simp [yca] at h
theorem ypg {t:TypeId} {us:List CV} {m m':Mem Td} {ps:List Prop} {r:SV} (h:yfz t us m=some (ps,r,none)) (hl:MLe m m'):yfz t us m'=some (ps,r,none):=by
 unfold yfz at h ⊢
 split at h
 ·split at h
  ·rename_i hm
   simp only [hl _ _ hm (by simp)]
   exact h
  ·cases h
 ·rename_i i sz idx off
  split at h
  ·rename_i hm
   simp only [hl _ _ hm (by simp)]
   exact h
  ·rename_i hm
   simp only [hl _ _ hm (by simp)]
   exact h
  ·rename_i hm
   simp only [hl _ _ hm (by simp)]
   split at h
   ·rename_i h1
    try simp only [h1]
    split at h
    ·simp at h
    ·rename_i h2
     try simp only [h2]
     split at h
     ·rename_i h3
      try simp only [h3]
      exact h
     ·split at h
      ·split at h
       ·simp at h
       ·cases h
      ·cases h
   ·cases h
  ·rename_i hm
   simp only [hl _ _ hm (by simp)]
   split at h
   ·rename_i m hwt
    try simp only [hwt]
    split at h
    ·rename_i pvs hb hv
     have hv':=yot hv m'.length
     simp only [hb,hv']
     exact h
    ·simp at h
    ·cases h
   ·rename_i hwt
    try simp only [hwt]
    split at h
    ·rename_i h1 h2
     try simp only [h1,h2]
     split at h
     ·rename_i h3
      try simp only [h3]
      exact h
     ·cases h
    ·split at h
     ·simp at h
     ·cases h
    ·split at h
     ·simp at h
     ·cases h
    ·cases h
  ·rename_i hm
   simp only [hl _ _ hm (by simp)]
   exact h
  ·rename_i hm
   simp only [hl _ _ hm (by simp)]
   exact h
  ·rename_i n1 n2 n3 n4 n5
   split at h
   ·rename_i l hb h2
    have hb':=ydj hl hb
    have key:∀ en,m[i]? =some en→en.ob≠.dead→m'[i]? =some en:=fun en h1 h2=>hl _ _ h1 h2
    unfold yd2 at hb
    simp only at hb
    split at hb
    all_goals first
     |(cases hb;done)
     |(rename_i hm;simp only [key _ hm (by simp),hb',h2];exact h)
   ·cases h
 ·cases h
theorem opsD_mono (op:Op) (us:List CV) (m m':Mem Td) (ps:List Prop) (r:SV) (h:opsD op us m=some (ps,r,none)) (hl:MLe m m'):opsD op us m'=some (ps,r,none):=by
 unfold opsD at h ⊢
 split at h
 ·unfold ygm at h
  cases h
 ·exact ypg h hl
 ·split at h
  ·rename_i q hq
   cases h
   unfold yka at hq
   repeat' split at hq
   all_goals first|(cases hq;done)|(simp at hq;done)
  ·split at h
   ·rename_i q hq
    cases h
    unfold yj9 at hq
    repeat' split at hq
    all_goals first|(cases hq;done)|(simp at hq;done)
   ·split at h
    ·rename_i q hq
     cases h
     unfold ykb at hq
     repeat' split at hq
     all_goals first|(cases hq;done)|(simp at hq;done)
    ·unfold yfd at h
     repeat' split at h
     all_goals first|(cases h;done)|(simp at h;done)
 ·unfold ynr at h ⊢
  split at h
  ·split at h
   ·rename_i hn hv hs
    simp only [ykk hl hn,hv,hs]
    exact h
   ·cases h
  ·split at h
   ·rename_i hn hv hs
    simp only [ykk hl hn,hv,hs]
    exact h
   ·cases h
  ·cases h
 ·split at h
  ·rename_i ht
   try simp only [ht]
   split at h
   ·rename_i hw
    unfold ynl at h
    repeat' split at h
    all_goals first|(cases h;done)|(simp at h;done)
   ·rename_i hw
    try simp only [hw]
    exact h
  ·rename_i ht
   try simp only [ht]
   exact ydo _ us m m' ps r h hl
 ·split at h
  ·rename_i ht
   try simp only [ht]
   exact h
  ·rename_i ht
   try simp only [ht]
   split at h
   ·rename_i ht2
    try simp only [ht2]
    exact h
   ·rename_i ht2 ht3
    try simp only [ht2,ht3]
    exact yht h hl
   ·rename_i ht2 ht3
    try simp only [ht2,ht3]
    split at h
    ·rename_i q hq
     cases h
     rw [ydo _ us m m' ps r hq hl]
    ·unfold opSS at h
     repeat' split at h
     all_goals first|(cases h;done)|(simp at h;done)
 ·split at h
  ·rename_i ht3
   try simp only [ht3]
   exact yht h hl
  ·rename_i ht3
   try simp only [ht3]
   split at h
   ·rename_i q hq
    cases h
    rw [ydo _ us m m' ps r hq hl]
   ·unfold opRR at h
    repeat' split at h
    all_goals first|(cases h;done)|(simp at h;done)
 ·split at h
  ·rename_i ht
   try simp only [ht]
   exact ypj h hl
  ·rename_i ht
   try simp only [ht]
   exact ydo _ us m m' ps r h hl
 ·unfold ynp at h
  repeat' split at h
  all_goals first|(cases h;done)|(simp at h;done)
 ·unfold yno at h
  cases h
 ·unfold yto at h
  repeat' split at h
  all_goals first|(cases h;done)|(simp at h;done)
 ·unfold ynm at h
  repeat' split at h
  all_goals first|(cases h;done)|(simp at h;done)
 ·unfold ytt at h
  repeat' split at h
  all_goals first|(cases h;done)|(simp at h;done)
 ·split at h
  ·rename_i q hq
   cases h
   unfold yji at hq
   repeat' split at hq
   all_goals first|(cases hq;done)|(simp at hq;done)
  ·unfold yjh at h
   repeat' split at h
   all_goals first|(cases h;done)|(simp at h;done)
 ·unfold ytu at h
  cases h
 ·split at h
  ·unfold ynn at h
   repeat' split at h
   all_goals first|(cases h;done)|(simp at h;done)
  ·rename_i ht
   try simp only [ht]
   split at h
   ·rename_i q hq
    cases h
    rw [ydo _ us m m' ps r hq hl]
   ·exact (ypf h).elim
 ·exact h
 ·split at h
  ·unfold ypi at h
   repeat' split at h
   all_goals first|(cases h;done)|(simp at h;done)
  ·exact ydo _ us m m' ps r h hl
 ·split at h
  ·split at h
   ·rename_i t hts ht
    try simp only [ht]
    unfold yts at h ⊢
    split at h
    ·split at h
     ·rename_i hn hs
      simp only [ykk hl hn,hs]
      exact h
     ·cases h
    ·cases h
   ·rename_i t hts ht
    try simp only [ht]
    exact ydo _ us m m' ps r h hl
  ·cases h
 ·split at h
  ·rename_i ht
   try simp only [ht]
   unfold ytp at h
   cases h
  ·rename_i ht
   try simp only [ht]
   unfold ytq at h ⊢
   split at h
   ·rename_i hb
    rw [zbs] at hb
    rw [hb.1,yrx hl hb.2]
    exact h
   ·cases h
 ·exact ydo _ us m m' ps r h hl
theorem opsD_ok (op:Op) (args:List CV) (mem:Mem Td) (ps:List Prop) (r:SV) (mo:Option (Mem Td)) (h:opsD op args mem=some (ps,r,mo)) (hp:∀ p∈ps,p) (o:Oper) (ρ:Operand→Value) (w:World) (e:Env) (ho:o.op=op) (hM:MemOk W0 G Id' w e mem)
  (ha:AllC e args (op.operands.toList.map ρ)):yai Try.prog (fun v w'=>OutIs Id' W0 G w e r v w' mo) ((execOp ρ o).run Try.prog w):=by
 have hT:opsR op args mem=some (ps,r,mo)→yai Try.prog (fun v w'=>OutIs Id' W0 G w e r v w' mo) ((execOp ρ o).run Try.prog w):=fun h=>opsR_ok op args mem ps r mo h hp o ρ w e ho hM ha
 unfold opsD at h
 split at h
 ·exact yr8 h ho hM
 ·rename_i t x
  exact yvy h hp ho hM (by simpa [Op.operands] using ha)
 ·rename_i t x y
  split at h
  ·rename_i q hq
   cases h
   exact opSetR_ok hq ho hM (by simpa [Op.operands] using ha)
  ·split at h
   ·rename_i q hq
    cases h
    exact opSetT_ok hq ho hM (by simpa [Op.operands] using ha)
   ·split at h
    ·rename_i q hq
     cases h
     exact opSetC_ok hq ho hM (by simpa [Op.operands] using ha)
    ·exact yr2 h hp ho hM (by simpa [Op.operands] using ha)
 ·rename_i t x y
  exact yv1 h hp ho hM (by simpa [Op.operands] using ha)
 ·rename_i t x
  split at h
  ·split at h
   ·exact yvt h hp ho hM (by simpa [Op.operands] using ha)
   ·exact ytn (hi:=none) h hp ho (by simpa [Op.operands] using ha)
  ·exact hT h
 ·rename_i t x y
  split at h
  ·exact ytn (hi:=some y) h hp ho (by simpa [Op.operands] using ha)
  ·split at h
   ·exact opWinA_ok h hp ho (by simpa [Op.operands] using ha)
   ·exact yj8 (lo:=none) (hi:=some y) h hp ho hM (by rw [ho];exact ha)
   ·split at h
    ·rename_i q hq
     cases h
     exact hT hq
    ·exact opSS_ok h hp ho hM (by simpa [Op.operands] using ha)
 ·rename_i t x y
  split at h
  ·exact yj8 (lo:=some y) (hi:=none) h hp ho hM (by rw [ho];exact ha)
  ·split at h
   ·rename_i q hq
    cases h
    exact hT hq
   ·exact opRR_ok h hp ho hM (by simpa [Op.operands] using ha)
 ·rename_i s d x
  split at h
  ·exact yv0 h hp ho hM (by simpa [Op.operands] using ha)
  ·exact hT h
 ·rename_i xs ts
  exact yvz h hp ho hM (by rw [ho];exact ha)
 ·rename_i t x y
  exact yvx h ho hM (by simpa [Op.operands] using ha)
 ·rename_i t x y z
  exact opPutM_ok h ho hM (by simpa [Op.operands] using ha)
 ·rename_i t
  exact yvu h ho hM
 ·rename_i xs ts
  exact opDelM_ok h ho hM (by rw [ho];exact ha)
 ·rename_i xs ts
  split at h
  ·rename_i q hq
   cases h
   exact yr6 hq hp ho hM (by rw [ho];exact ha)
  ·exact yr5 h hp ho hM (by rw [ho];exact ha)
 ·rename_i t x
  exact opArrD_ok h hp ho hM (by simpa [Op.operands] using ha)
 ·rename_i t x y
  split at h
  ·rename_i ht
   obtain rfl:=eqb_eq.1 ht
   exact yvv h hp ho hM (by simpa [Op.operands] using ha)
  ·split at h
   ·rename_i q hq
    cases h
    exact hT hq
   ·exact yvw h hp ho hM (by simpa [Op.operands] using ha)
 ·rename_i t prts
  split at h
  ·rename_i x y hps
   have e1:prts=#[(0,x),(1,y)]:=by rw [← zbq (xs:=prts),hps]
   subst e1
   exact yr7 h hp ho hM (by simpa [Op.operands] using ha)
  ·cases h
 ·rename_i t prts
  split at h
  ·rename_i ht hl
   have:∃ x,prts.toList=[(0,x)]:=by
    unfold isLen1 at hl
    split at hl
    ·rename_i x hx;exact ⟨x,hx⟩
    ·cases hl
   obtain ⟨x,hps⟩:=this
   have e1:prts=#[(0,x)]:=by rw [← zbq (xs:=prts),hps]
   subst e1
   exact opLitD_ok h hp ho hM (by simpa [Op.operands] using ha)
  ·exact hT h
 ·rename_i xs ts
  split at h
  ·rename_i t hts
   split at h
   ·exact opLenD_ok (by rw [hts];exact h) ho hM (by rw [ho];exact ha)
   ·exact hT h
  ·cases h
 ·rename_i b t x y ty'
  split at h
  ·exact opNilM_ok h ho hM (by simpa [Op.operands] using ha)
  ·exact opNilD_ok h ho hM (by simpa [Op.operands] using ha)
 ·exact hT h
theorem appD_at {t:TypeId} {u v:CV} {mem m':Mem Td} {ps:List Prop} {r:SV} (h:appD t [u,v] mem=some (ps,r,some m')):∀ j en,mem[j]? =some en→(∀ p,u=.one p→ycd p≠some j)→m'[j]? =some en:=by
 unfold appD at h
 cases h
theorem appAll_at {t:TypeId} {u v:CV} {mem m':Mem Td} {ps:List Prop} {r:SV} (h:yqn t [u,v] mem=some (ps,r,some m')):∀ j en,mem[j]? =some en→(∀ p,u=.one p→ycd p≠some j)→m'[j]? =some en:=by
 unfold yqn at h
 split at h
 ·exact opAppR_at h
 ·split at h
  ·split at h
   ·rename_i q hq
    cases h
    exact appX_at hq
   ·exact appD_at h
  ·exact appT_at (hx:=yag) h
theorem opsR_lit {t:TypeId} {k:Nat} {qs:Array (Nat×Operand)} {us:List CV} {m:Mem Td} (hk:k≠1):opsR (.buildSlice t k qs) us m=opsT (.buildSlice t k qs) us m:=by
 match k,hk with
 |0,_=>rfl
 |1,hk=>exact absurd rfl hk
 |n+2,_=>rfl
theorem yal:HoOk Try.prog dkHo Id':=
 ⟨fun W0 G t args mem ps r m' h hp ty w e us hM ha=>(by
  have h:yqn t args mem=some (ps,r,some m'):=h
  unfold yqn at h
  split at h
  ·exact opAppR_ok h hp ty hM ha
  ·split at h
   ·split at h
    ·rename_i q hq
     cases h
     exact appX_ok hq hp ty hM ha
    ·exact appD_ok h hp ty hM ha
   ·exact appT_ok (hx:=yag) t args mem ps r m' h hp ty w e us hM ha),
 fun W0 G op args mem ps r mo h hp o ρ w e ho hM ha=>ybd (fun v w' hv=>by cases mo<;>exact hv) (opsD_ok op args mem ps r mo h hp o ρ w e ho hM ha),
 fun op args m m' ps r h hl=>opsD_mono op args m m' ps r h hl,
 fun t k qs args mem ps r m' hn h=>(by
  have h:opsD (.buildSlice t k qs) args mem=some (ps,r,some m'):=h
  by_cases hk:k=1
  ·subst hk
   simp only [opsD] at h
   split at h
   ·unfold ypi at h
    cases h
   ·unfold opsR at h
    simp only at h
    split at h
    ·unfold yph at h
     repeat' split at h
     all_goals first
      |(cases h;done)
      |(simp only [Option.some.injEq,Prod.mk.injEq] at h;obtain ⟨_,_,rfl⟩:=h;exact Keep.push _ _)
    ·exact (yrg (J:=dkI) yag).opb t 1 qs args mem ps r m' hn h
  ·have h':opsT (.buildSlice t k qs) args mem=some (ps,r,some m'):=by
    unfold opsD at h
    split at h
    all_goals first
     |(rename_i heq;cases heq;exact absurd rfl hk)
     |(rename_i heq;cases heq;done)
     |exact (opsR_lit hk).symm.trans h
   exact (yrg (J:=dkI) yag).opb t k qs args mem ps r m' hn h'),
 fun op args mem ps r m' hn h=>(by
  cases op with
  |alloc t=>
   have h:ygm t args mem=some (ps,r,some m'):=h
   unfold ygm at h
   cases h
  |load t x=>
   have h:yfz t args mem=some (ps,r,some m'):=h
   unfold yfz at h
   repeat' split at h
   all_goals first
    |(cases h;done)
    |(simp at h;done)
    |(simp only [Option.some.injEq,Prod.mk.injEq] at h;obtain ⟨_,_,rfl⟩:=h;exact Keep.push _ _)
  |_=>simp [yr9] at hn),
 fun t u v mem ps r m' h=>appAll_at h,
 fun t x y p v mem ps r m' hn h=>(by
  have h:(match yka t [.one p,v] mem with|some q=>some q|none=>(match yj9 t [.one p,v] mem with|some q=>some q|none=>(match ykb t [.one p,v] mem with|some q=>some q|none=>yfd t [.one p,v] mem)))=some (ps,r,some m'):=h
  split at h
  ·rename_i q hq
   cases h
   exact yvr hq
  ·split at h
   ·rename_i q hq
    cases h
    exact yvq hq
   ·split at h
    ·rename_i q hq
     cases h
     exact yvs hq
    ·exact ype hn h)⟩
end
section
variable {β:Type} {S:Sy β} {I:ObI β} {W0:World} {G:Nat→Prop} {L:Lps β} {P:Program} {w w':World} {E e e':Env} {MEM mem ms:Mem β} {hard:β→Bool}
def lenL {α:Type}:List α→Nat
 |[]=>0
 |_::r=>lenL r+1
def yiv (mem:Mem β):List Nat→Bool
 |[]=>true
 |i::r=>(match mem[i]? with|some en=>!yeb en|none=>false)&&yiv mem r
theorem yev {m:Mem β}:∀ {is:List Nat},yiv m is=true→∀ i∈is,∃ en,m[i]? =some en∧en.ob≠.dead
 |[],_,i,h=>by cases h
 |j::r,h,i,hi=>by
  simp only [yiv,zbs] at h
  rcases List.mem_cons.1 hi with rfl|hi
  ·have h1:=h.1
   split at h1
   ·rename_i en hen
    refine ⟨en,hen,fun hd=>?_⟩
    unfold yeb at h1
    rw [hd] at h1
    cases h1
   ·cases h1
  ·exact yev h.2 i hi
theorem ykj {m m':Mem β} (hl:MLe m m'):∀ {is:List Nat},yiv m is=true→yiv m' is=true∧∀ i∈is,m'[i]? =m[i]?
 |[],_=>⟨rfl,fun i h=>by cases h⟩
 |j::r,h=>by
  obtain ⟨en,h1,h2⟩:=yev h j (zal ..)
  have hj:=hl j en h1 h2
  simp only [yiv,zbs] at h ⊢
  obtain ⟨k1,k2⟩:=ykj hl h.2
  refine ⟨⟨?_,k1⟩,fun i hi=>?_⟩
  ·have h0:=h.1
   rw [h1] at h0
   rw [hj];exact h0
  ·rcases List.mem_cons.1 hi with rfl|hi
   ·rw [hj,h1]
   ·exact k2 i hi
theorem yt5 {ps:List PV}:∀ {is:List Nat} {i:Nat},i∈is→i∈hsPs ps is:=by
 induction ps with
 |nil=>intro is i h;exact h
 |cons p ps ih=>
  intro is i h
  simp only [hsPs]
  refine ih ?_
  cases p<;>simp only [hsP]<;>first
   |exact h
   |(split<;>first|exact h|exact zah _ h)
theorem ye1 {m m':Mem β} (hl:MLe m m'):∀ (n j:Nat) (is:List Nat),yiv m (cloH m n j is)=true→cloH m' n j is=cloH m n j is∧∀ i∈is,i∈cloH m n j is
 |0,j,is,_=>⟨rfl,fun i h=>h⟩
 |n+1,j,is,h=>by
  simp only [cloH] at h ⊢
  cases hj:is[j]? with
  |none=>exact ⟨rfl,fun i h=>h⟩
  |some i=>
   rw [hj] at h
   simp only at h ⊢
   cases hm:m[i]? with
   |none=>
    rw [hm] at h
    simp only at h
    obtain ⟨en,h1,_⟩:=yev h i (zaj hj)
    rw [hm] at h1;cases h1
   |some en=>
    rw [hm] at h
    simp only at h
    have hin:i∈is:=zaj hj
    have key:en.ob≠.dead→m'[i]? =some en:=fun hd=>hl i en hm hd
    obtain ⟨ob,mu⟩:=en
    cases ob with
    |dead=>
     simp only [yak] at h ⊢
     obtain ⟨_,g2⟩:=ye1 hl n (j+1) is h
     obtain ⟨en,h1,h2⟩:=yev h i (g2 i hin)
     rw [hm] at h1;cases h1
     exact absurd rfl h2
    |blk cs=>
     rw [key (by simp)]
     simp only [yak] at h ⊢
     obtain ⟨g1,g2⟩:=ye1 hl n (j+1) _ h
     exact ⟨g1,fun a ha=>g2 a (yt5 ha)⟩
    |bx cs=>
     rw [key (by simp)]
     simp only [yak] at h ⊢
     obtain ⟨g1,g2⟩:=ye1 hl n (j+1) _ h
     exact ⟨g1,fun a ha=>g2 a (yt5 ha)⟩
    |us b=>
     rw [key (by simp)]
     simp only [yak] at h ⊢
     exact ye1 hl n (j+1) _ h
    |sl K b=>
     rw [key (by simp)]
     simp only [yak] at h ⊢
     exact ye1 hl n (j+1) _ h
theorem yqe {m m':Mem β} {is:List Nat}:∀ {r:List Nat},(∀ i∈r,m'[i]? =m[i]?)→dnMG hard is m' r=dnMG hard is m r
 |[],_=>rfl
 |i::r,h=>by
  simp only [dnMG]
  rw [h i (zal ..),yqe fun j hj=>h j (zak _ hj)]
def roM:Mem β→Mem β
 |[]=>[]
 |en::r=>⟨en.ob,false⟩::roM r
theorem yh8:∀ {m:Mem β} {i:Nat} {n:En β},(roM m)[i]? =some n→∃ en,m[i]? =some en∧n=⟨en.ob,false⟩
 |[],i,n,h=>by simp [roM] at h
 |en::r,0,n,h=>by simp [roM] at h;exact ⟨en,rfl,h.symm⟩
 |en::r,i+1,n,h=>by
  simp only [roM,List.getElem?_cons_succ] at h ⊢
  exact yh8 h
theorem roM_len:∀ m:Mem β,(roM m).length=m.length
 |[]=>rfl
 |en::r=>by simp [roM,roM_len r]
theorem MemOk.ro {sub:Mem β} (h:MemOk w (ybc I w e sub) I w e sub):MemOk w (ybc I w e (roM sub)) I w e (roM sub):=by
 refine ⟨by rw [roM_len];exact h.len,fun i u n hu hn=>?_,fun i u n hu hn k hk=>?_,fun i u n hu hn hmu=>?_,fun i j u v n m hu hn hmu=>?_,Mod.refl _ w,fun i u n hu hn k hk=>.inr (footO.2 ⟨i,u,n,hu,hn,hk⟩)⟩
 ·obtain ⟨en,h1,rfl⟩:=yh8 hn
  have hh:=h.holds i u en hu h1
  obtain ⟨ob,mu⟩:=en
  cases ob with
  |blk cs=>
   obtain ⟨b,o,rfl,hc⟩:=hh
   exact ⟨b,o,rfl,fun j p hp=>by obtain ⟨x,g1,g2,_⟩:=hc j p hp;exact ⟨x,g1,g2,fun h=>by cases h⟩⟩
  |bx cs=>
   obtain ⟨b,o,rfl,hc⟩:=hh
   exact ⟨b,o,rfl,fun j p hp=>by obtain ⟨x,g1,g2,_⟩:=hc j p hp;exact ⟨x,g1,g2,fun h=>by cases h⟩⟩
  |sl K l=>exact hh
  |us b=>exact hh
  |dead=>exact hh
 ·obtain ⟨en,h1,rfl⟩:=yh8 hn
  exact h.lt i u en hu h1 k hk
 ·obtain ⟨en,h1,rfl⟩:=yh8 hn
  cases hmu
 ·obtain ⟨en,h1,rfl⟩:=yh8 hn
  cases hmu
theorem ro_ext {sub:Mem β} (h:Mod (fun k=>ybc I w e (roM sub) (2 * k)) w w'):Ext w w':=h.mono fun k _ hk=>by
 obtain ⟨i,u,n,_,hn,hmu,_⟩:=footE.1 hk
 obtain ⟨en,_,rfl⟩:=yh8 hn
 cases hmu
abbrev CtrV (β:Type):=List CV→Mem β→Option (List Prop×Value)
def ctrV (spec:CtrV β) (hard:β→Bool):Fn2 β:=fun us mem=>ymf (cloH mem (lenL (hsCs us [])) 0 (hsCs us [])) fun is=>
 match yhv is&&yiv mem is,mapO (dnC is) us,dnMG hard is mem is with
 |true,some us0,some (sub,qs)=>(match spec (cvCs us0) (roM (canM sub)) with
  |some (ps,v)=>some (qs++ps,svOf v,none)
  |none=>none)
 |_,_,_=>none
def ymu (P:Program) (I:ObI β) (f:FuncId) (spec:CtrV β):Prop:=∀ us sub ps x,spec us sub=some (ps,x)→(∀ p∈ps,p)→∀ w e vs,MemOk w (ybc I w e sub) I w e sub→AllC e us vs→
 Calls P f vs.toArray w (fun y w'=>y=.returned x∧Ext w w')
theorem yk5 {f:FuncId} {spec:CtrV β} (he:∀ us w,(callFunc f us).run P w=.ok (.enter f us) w) (hspec:ymu P I f spec):RowOk P I hard f (ctrV spec hard):=by
 refine ⟨he,fun W0 G args mem ps r mo hr hp w E us hM ha=>?_,fun args m m' ps r hr hl=>?_,fun args mem ps r m' hr=>?_⟩
 ·unfold ctrV at hr
  rw [yez] at hr
  split at hr
  ·rename_i us0 sub qs hB h1 h2
   split at hr
   ·rename_i pps v hs
    simp only [Option.some.injEq,Prod.mk.injEq] at hr
    obtain ⟨rfl,rfl,rfl⟩:=hr
    rw [zbs] at hB
    have hn:=ycx hB.1
    let is:=cloH mem (lenL (hsCs args [])) 0 (hsCs args [])
    let e:Env:=is.map fun i=>E.getD i undef
    have hee:∀ j i:Nat,is[j]? =some i→e[j]? =E[i]? :=fun j i hj=>by
     obtain ⟨en,h3,_⟩:=yev hB.2 i (zaj hj)
     have hlt:i<E.length:=by rw [hM.len];exact (zab.1 h3).1
     simp only [e,List.getElem?_map,hj,Option.map_some,List.getD_eq_getElem?_getD]
     rw [zaa hlt];rfl
    have hsub:=subG_ok (e:=e) hM hn h2 (fun p h=>hp p (zah _ h)) (by simp [e,is]) hee
    exact (hspec _ _ pps v hs (fun p h=>hp p (zag _ h)) w e us (MemOk.ro (by rw [yij];exact hsub.can)) (ysv (yn6 hee h1 ha))).mono fun y w' ⟨h4,h5⟩=>⟨v,h4,yrh E v,h5⟩
   ·cases hr
  ·cases hr
 ·unfold ctrV at hr ⊢
  rw [yez] at hr ⊢
  split at hr
  ·rename_i us0 sub qs hB h1 h2
   have hB':=hB
   rw [zbs] at hB'
   obtain ⟨g1,_⟩:=ye1 hl _ _ _ hB'.2
   obtain ⟨g2,g3⟩:=ykj hl hB'.2
   rw [g1,hB'.1,g2,h1,yqe g3,h2]
   exact hr
  ·cases hr
 ·unfold ctrV at hr
  rw [yez] at hr
  split at hr
  ·split at hr<;>simp at hr
  ·cases hr
end
section
variable {β:Type} {S:Sy β} {I:ObI β} {W0:World} {G:Nat→Prop} {L:Lps β} {P:Program} {w w':World} {E e e':Env} {MEM mem ms:Mem β} {hard:β→Bool}
def yso:Nat→List CV→List (Nat×SV)
 |_,[]=>[]
 |i,x::xs=>(i,.c x)::yaz (i+1) fun j=>yso j xs
def resV:SV→List (Nat×SV)
 |.tup xs=>yso 0 xs
 |x=>[(0,x)]
def lenEq:List CV→List CV→Bool
 |[],[]=>true
 |_::xs,_::ys=>lenEq xs ys
 |_,_=>false
def shEq:SV→SV→Bool
 |.tup xs,.tup ys=>lenEq xs ys
 |.c _,.c _=>true
 |_,_=>false
theorem yk1:∀ (xs:List CV) (i j:Nat) (x:CV),xs[j]? =some x→yab (i+j) (yso i xs)=some (.c x)∧(i+j,SV.c x)∈yso i xs
 |[],i,j,x,h=>by simp at h
 |y::ys,i,0,x,h=>by
  simp at h;subst h
  simp only [yso,yab,Nat.add_zero]
  rw [eqb_eq.2 rfl]
  exact ⟨rfl,zal ..⟩
 |y::ys,i,j+1,x,h=>by
  obtain ⟨h1,h2⟩:=yk1 ys (i+1) j x (by simpa using h)
  simp only [yso,yab,yak]
  rw [ymk (by omega)]
  rw [show i+(j+1)=i+1+j by omega]
  exact ⟨h1,zak _ h2⟩
theorem yps:∀ {xs ys:List CV},lenEq xs ys=true→xs.length=ys.length
 |[],[],_=>rfl
 |_::xs,_::ys,h=>by simp [yps (xs:=xs) (ys:=ys) h]
 |[],_::_,h=>by cases h
 |_::_,[],h=>by cases h
theorem resV_is {y x:SV} (hs:shEq y x=true) {e0:Env} (h:∀ p∈resV x,∃ z,yab p.1 (resV y)=some z∧∀ u,z.is e u→p.2.is e0 u) {v:Value} (hv:y.is e v):x.is e0 v:=by
 cases y with
 |c y=>
  cases x with
  |c x=>
   obtain ⟨z,h1,h2⟩:=h (0,.c x) (zal ..)
   simp only [resV,yab] at h1
   rw [eqb_eq.2 rfl] at h1
   simp only [Option.some.injEq] at h1
   subst h1
   exact h2 v hv
  |_=>cases hs
 |tup ys=>
  cases x with
  |tup xs=>
   have hl:=yps hs
   obtain ⟨us,h1,rfl⟩:=hv
   have hul:=h1.len
   refine ⟨us,?_,rfl⟩
   have gen:∀ (xs:List CV) (us:List Value),us.length=xs.length→(∀ (j:Nat) (x:CV) (u:Value),xs[j]? =some x→us[j]? =some u→x.is e0 u)→AllC e0 xs us:=by
    intro xs
    induction xs with
    |nil=>intro us h _;cases us with|nil=>trivial|cons _ _=>simp at h
    |cons x xs ih=>
     intro us h hh
     cases us with
     |nil=>simp at h
     |cons u us=>exact ⟨hh 0 x u rfl rfl,ih us (by simpa using h) fun j x' u' h1 h2=>hh (j+1) x' u' (by simpa using h1) (by simpa using h2)⟩
   refine gen xs us (by omega) fun j x u hx hu=>?_
   obtain ⟨_,h4⟩:=yk1 xs 0 j x hx
   obtain ⟨z,h5,h6⟩:=h _ h4
   have hj:j<ys.length:=by have:=(zab.1 hx).1;omega
   obtain ⟨h7,_⟩:=yk1 ys 0 j _ (zaa hj)
   have h5':yab (0+j) (yso 0 ys)=some z:=h5
   rw [h7] at h5'
   cases h5'
   exact h6 u (h1.get j _ u (zaa hj) hu)
  |_=>cases hs
 |_=>cases hs
def wayO (I:ObI β) (k0:Nat) (X:Mem β) (x:SV) (r:Option (List Prop×SV×SSt β)):Option (List Prop):=match r with
 |some (ps,y,s)=>(match shEq y x,ysi I k0 X (resV x) ⟨resV y,s.mem,0⟩ with
  |true,some qs=>some (ps++qs)
  |_,_=>none)
 |none=>none
theorem ya6 (hS:∀ W0 G,SyOk S I W0 G) (hP:S.P=P) {f:FuncId} {fn:Func} (hf:P.funcs[f]? =some fn) (hb:fn.body=some (yat fn)) (hL:∀ W0 G,LpsOk S I W0 G L fn.ntmps (yat fn)) {us:List CV} {sub X:Mem β} {x:SV} {cs:List Bool} (hlen:leb us.length fn.ntmps=true)
  (h:∃ qs,wayO I sub.length X x ((ybu S L fn us sub).al cs)=some qs∧∀ q∈qs,q):∀ w e vs,MemOk w (ybc I w e sub) I w e sub→AllC e us vs→
  Calls P f vs.toArray w (fun y w'=>∃ v e',y=.returned v∧Grows e e'∧x.is e' v∧MemOk w (ybc I w e sub) I w' e' X):=by
 subst hP
 intro w e vs hM ha
 obtain ⟨qs,h1,h2⟩:=h
 unfold wayO at h1
 split at h1
 ·rename_i ps y s hr
  split at h1
  ·rename_i rs hs hfit
   simp only [Option.some.injEq] at h1
   subst h1
   refine yeo (hS w _) hf hb (hL w _) ha hlen hM (RT.al_holds hr fun p hp=>h2 p (zah _ hp)) ?_
   rintro y' s' e' w' v hg ⟨rfl,rfl⟩ hy hM'
   obtain ⟨xs,hk,hX,hV⟩:=Fit3.ok ⟨rs,hfit,fun p hp=>h2 p (zag _ hp)⟩ hM'
   refine ⟨v,pEnv sub.length e' xs,rfl,fun i u hu=>?_,resV_is hs hV hy,hX⟩
   have hi:i<sub.length:=by rw [← hM.len];exact (zab.1 hu).1
   rw [yie hk xs hi]
   exact hg i u hu
  ·cases h1
 ·cases h1
def wayV (r:Option (List Prop×SV×SSt β)) (v:Value→Prop):Option (List Prop):=match r with
 |some (ps,y,s)=>(match valS (some y) with
  |some u=>some (v u::ps)
  |none=>none)
 |none=>none
theorem yn8 (hS:∀ W0 G,SyOk S I W0 G) (hP:S.P=P) {f:FuncId} {fn:Func} (hf:P.funcs[f]? =some fn) (hb:fn.body=some (yat fn)) (hL:∀ W0 G,LpsOk S I W0 G L fn.ntmps (yat fn)) {us:List CV} {sub:Mem β} {x:Value} {cs:List Bool} (hlen:leb us.length fn.ntmps=true)
  (h:∃ qs,wayV ((ybu S L fn us (roM sub)).al cs) (fun u=>u=x)=some qs∧∀ q∈qs,q):∀ w e vs,MemOk w (ybc I w e (roM sub)) I w e (roM sub)→AllC e us vs→Calls P f vs.toArray w (fun y w'=>y=.returned x∧Ext w w'):=by
 subst hP
 intro w e vs hM ha
 obtain ⟨qs,h1,h2⟩:=h
 unfold wayV at h1
 split at h1
 ·rename_i ps y s hr
  split at h1
  ·rename_i u hu
   simp only [Option.some.injEq] at h1
   subst h1
   have hux:u=x:=h2 _ (zal ..)
   subst hux
   refine yeo (hS w _) hf hb (hL w _) ha hlen hM (RT.al_holds hr fun p hp=>h2 p (zak _ hp)) ?_
   rintro y' s' e' w' v hg ⟨rfl,rfl⟩ hy hM'
   exact ⟨congrArg _ (yg1 hu (fun z hz=>by cases hz;exact hy)),ro_ext hM'.mod⟩
  ·cases h1
 ·cases h1
end
theorem rnd_nD {P:Program} {W0:World} {G:Nat→Prop} {sz:Nat} {c:Code} {k0:Nat} {V:Nat→List (Nat×SV)} {M:Nat→Mem Td} {N:Nat} {Ux:Nat→SX→Option (List (Nat×SV)×Mem Td)} {X:Nat→SX→Prop} {J:Nat→Prop} {k:Nat} {b Vn:List (Nat×SV)} {mm Mn:Mem Td} (S:Sy Td) (hP:S.P=P) (hS:SyOk S Id' W0 G)
  {cs:List Bool} (h:∃ ps,alN Id' k0 Vn Mn ((symC S [] sz c ⟨b,mm,0⟩).al cs)=some ps∧∀ p∈ps,p) (hV:V (k+1)=Vn) (hM:M (k+1)=Mn) (hk:k<N) (hJ:J (k+1)):Rnd P Id' W0 G sz c ⟨b,mm,0⟩ (RK3 Id' k0 V M N J Ux X k):=by
 obtain ⟨ps,h1,h2⟩:=h
 exact rnd_n S [] hP hS (LpsOk.nil _) (m2:=mm) (fun w e h=>h) cs ps h1 h2 hV hM hk hJ
theorem rnd_xD {P:Program} {W0:World} {G:Nat→Prop} {sz:Nat} {c:Code} {k0:Nat} {V:Nat→List (Nat×SV)} {M:Nat→Mem Td} {N:Nat} {Ux:Nat→SX→Option (List (Nat×SV)×Mem Td)} {X:Nat→SX→Prop} {J:Nat→Prop} {k id:Nat} {b Vn:List (Nat×SV)} {mm Mn:Mem Td} (S:Sy Td) (hP:S.P=P) (hS:SyOk S Id' W0 G)
  {cs:List Bool} (h:∃ ps,alX Id' k0 id Vn Mn ((symC S [] sz c ⟨b,mm,0⟩).al cs)=some ps∧∀ p∈ps,p) (hU:Ux k (.exit id)=some (Vn,Mn)) (hX:X k (.exit id)):Rnd P Id' W0 G sz c ⟨b,mm,0⟩ (RK3 Id' k0 V M N J Ux X k):=by
 obtain ⟨ps,h1,h2⟩:=h
 exact rnd_x S [] hP hS (LpsOk.nil _) (m2:=mm) (fun w e h=>h) cs id ps h1 h2 hU hX
section
variable {β:Type} {S:Sy β} {I:ObI β} {L:Lps β} {P:Program}
def ydr (S:Sy β) (L:Lps β) (fn:Func) (cs:List Bool):Ctr β:=fun us sub=>match leb us.length fn.ntmps,(ybu S L fn us sub).al cs with
 |true,some (ps,x,s)=>some (ps,x,s.mem)
 |_,_=>none
theorem specG_ok (hS:∀ W0 G,SyOk S I W0 G) (hP:S.P=P) {f:FuncId} {fn:Func} (hf:P.funcs[f]? =some fn) (hb:fn.body=some (yat fn)) (hL:∀ W0 G,LpsOk S I W0 G L fn.ntmps (yat fn)) (cs:List Bool):CtrOk P I f (ydr S L fn cs):=by
 subst hP
 intro us sub ps x sm h hp w e vs hM ha
 unfold ydr at h
 split at h
 ·rename_i ps' y s hlen hr
  simp only [Option.some.injEq,Prod.mk.injEq] at h
  obtain ⟨rfl,rfl,rfl⟩:=h
  refine yeo (hS w _) hf hb (hL w _) ha hlen hM (RT.al_holds hr hp) ?_
  rintro y' s' e' w' v hg ⟨rfl,rfl⟩ hy hM'
  exact ⟨v,e',rfl,hg,hy,hM'⟩
 ·cases h
theorem ybh (hS:∀ W0 G,SyOk S I W0 G) (hP:S.P=P) {hard:β→Bool} {f:FuncId} {fn:Func} (hf:P.funcs[f]? =some fn) (hb:fn.body=some (yat fn)) (hL:∀ W0 G,LpsOk S I W0 G L fn.ntmps (yat fn)) (cs:List Bool) (he:∀ us w,(callFunc f us).run P w=.ok (.enter f us) w):
  RowOk P I hard f (ctrF I (ydr S L fn cs) hard):=ydi he (specG_ok hS hP hf hb hL cs)
end
def wNum (P:Program) (f_wNum:Func):Nat×Fn2 Td:=(214,inlF Id' (⟨P,[(F_put (hx:=yag):Nat×Fn2 Td)],[],dkHo,Id'.one,60⟩:Sy Td) [] f_wNum [] yaj)
theorem wNum_ok:RowOk Try.prog Id' yaj (wNum Try.prog Try.f214).1 (wNum Try.prog Try.f214).2:=yg8 rfl (fun (W0:World) (G:Nat→Prop)=>SyOk.mk2 Try.mixed yal (FnsR.cons (yu0 (J:=dkI) (hx:=yag)) (FnsR.nil)) EqsOk.nil) Try.func214 (by kernel_rfl) (fun _ _=>LpsOk.nil _) Try.call214
def wInt (P:Program) (f_wInt:Func):Nat×Fn2 Td:=(213,inlF Id' (⟨P,[(F_put (hx:=yag):Nat×Fn2 Td)],[],dkHo,Id'.one,60⟩:Sy Td) [] f_wInt [] yaj)
theorem yra:RowOk Try.prog Id' yaj (wInt Try.prog Try.f213).1 (wInt Try.prog Try.f213).2:=yg8 rfl (fun (W0:World) (G:Nat→Prop)=>SyOk.mk2 Try.mixed yal (FnsR.cons (yu0 (J:=dkI) (hx:=yag)) (FnsR.nil)) EqsOk.nil) Try.func213 (by kernel_rfl) (fun _ _=>LpsOk.nil _) Try.call213
def wFile (P:Program) (f_wFile f_wInt:Func):Nat×Fn2 Td:=(215,ctrF Id' (ydr (⟨P,[wInt P f_wInt],[],dkHo,Id'.one,60⟩:Sy Td) [] f_wFile []) yaj)
theorem wFile_ok:RowOk Try.prog Id' yaj (wFile Try.prog Try.f215 Try.f213).1 (wFile Try.prog Try.f215 Try.f213).2:=ybh (fun (W0:World) (G:Nat→Prop)=>SyOk.mk2 Try.mixed yal (FnsR.cons (yra) (FnsR.nil)) EqsOk.nil) rfl Try.func215 (by kernel_rfl) (fun _ _=>LpsOk.nil _) [] Try.call215
def rNum (P:Program) (f_rNum:Func):Nat×Fn2 Td:=(214,inlF Id' (⟨P,[(F_get (hx:=yag):Nat×Fn2 Td)],[],dkHo,Id'.one,60⟩:Sy Td) [] f_rNum [] yaj)
theorem rNum_ok:RowOk Try.prog Id' yaj (rNum Try.prog Try.f214).1 (rNum Try.prog Try.f214).2:=yg8 rfl (fun (W0:World) (G:Nat→Prop)=>SyOk.mk2 Try.mixed yal (FnsR.cons (yu5 (J:=dkI) (hx:=yag)) (FnsR.nil)) EqsOk.nil) Try.func214 (by kernel_rfl) (fun _ _=>LpsOk.nil _) Try.call214
def rInt (P:Program) (f_rInt:Func):Nat×Fn2 Td:=(213,inlF Id' (⟨P,[(F_get (hx:=yag):Nat×Fn2 Td)],[],dkHo,Id'.one,60⟩:Sy Td) [] f_rInt [] yaj)
theorem yrv:RowOk Try.prog Id' yaj (rInt Try.prog Try.f213).1 (rInt Try.prog Try.f213).2:=yg8 rfl (fun (W0:World) (G:Nat→Prop)=>SyOk.mk2 Try.mixed yal (FnsR.cons (yu5 (J:=dkI) (hx:=yag)) (FnsR.nil)) EqsOk.nil) Try.func213 (by kernel_rfl) (fun _ _=>LpsOk.nil _) Try.call213
def rFile (P:Program) (f_rFile f_rInt:Func):Nat×Fn2 Td:=(215,ctrF Id' (ydr (⟨P,[rInt P f_rInt],[],dkHo,Id'.one,60⟩:Sy Td) [] f_rFile []) yaj)
theorem rFile_ok:RowOk Try.prog Id' yaj (rFile Try.prog Try.f215 Try.f213).1 (rFile Try.prog Try.f215 Try.f213).2:=ybh (fun (W0:World) (G:Nat→Prop)=>SyOk.mk2 Try.mixed yal (FnsR.cons (yrv) (FnsR.nil)) EqsOk.nil) rfl Try.func215 (by kernel_rfl) (fun _ _=>LpsOk.nil _) [] Try.call215
end Go.Proofs.Ytiiekgcjilelpaa
