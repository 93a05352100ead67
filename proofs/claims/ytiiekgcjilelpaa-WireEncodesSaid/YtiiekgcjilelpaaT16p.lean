/- T16. -/
import Derived.Test.YtiiekgcjilelpaaT15p
import Derived.Test.YtiiekgcjilelpaaO1p
open List renaming getElem?_eq_getElem → zaa, getElem?_eq_some_iff → zab, getElem?_append_right → zac, getElem?_append_left → zad, length_append → zae, mem_append_right → zag, mem_append_left → zah, mem_of_getElem? → zaj, mem_cons_of_mem → zak, mem_cons_self → zal, getElem?_map → zan, getElem?_set_ne → zao, getElem?_drop → zap, length_drop → zav, getElem_of_mem → zaz
open Nat renaming lt_or_ge → zbk, le_trans → zbl
open Bool renaming and_eq_true → zbs
set_option linter.unusedSimpArgs false
set_option linter.unusedVariables false
namespace Go.Proofs.Ytiiekgcjilelpaa
open Go.RowKit
section
variable {β:Type} {S:Sy β} {I:ObI β} {W0:World} {G:Nat→Prop} {L:Lps β} {P:Program} {w w':World} {E e e':Env} {MEM mem ms:Mem β} {hard:β→Bool}
def hsC:CV→List Nat→List Nat
 |.one p,is=>hsP p is
 |.agg ps,is=>hsPs ps is
 |.fn _ ps,is=>hsPs ps is
def hsCs:List CV→List Nat→List Nat
 |[],is=>is
 |c::cs,is=>hsCs cs (hsC c is)
def cloH (mem:Mem β):Nat→Nat→List Nat→List Nat
 |0,_,is=>is
 |n+1,j,is=>match is[j]? with
  |none=>is
  |some i=>(match mem[i]? with
   |some en=>(match en.ob with
    |.blk cs=>yaz (j+1) fun j1=>cloH mem n j1 (hsPs cs is)
    |.bx cs=>yaz (j+1) fun j1=>cloH mem n j1 (hsPs cs is)
    |_=>yaz (j+1) fun j1=>cloH mem n j1 is)
   |none=>is)
def ymf {α:Type}:List Nat→(List Nat→α)→α
 |[],k=>k []
 |i::r,k=>yaz i fun i'=>ymf r fun r'=>k (i'::r')
theorem yez {α:Type}:∀ (xs:List Nat) (k:List Nat→α),ymf xs k=k xs
 |[],_=>rfl
 |i::r,k=>by simp only [ymf,yak];rw [yez r]
def dnC (is:List Nat):CV→Option CV
 |.one p=>(match dnP is p with|some q=>some (.one q)|none=>none)
 |.agg ps=>(match mapO (dnP is) ps with|some qs=>some (.agg qs)|none=>none)
 |.fn f ps=>(match mapO (dnP is) ps with|some qs=>some (.fn f qs)|none=>none)
theorem dnC_is {is:List Nat} {E e0:Env} (he:∀ j i:Nat,is[j]? =some i→e0[j]? =E[i]?) {x y:CV} (h:dnC is x=some y) {u:Value} (hu:x.is E u):y.is e0 u:=by
 cases x with
 |one p=>
  simp only [dnC] at h
  split at h
  ·rename_i q hq
   simp only [Option.some.injEq] at h;subst h
   exact dnP_is he hq hu
  ·cases h
 |agg ps=>
  simp only [dnC] at h
  split at h
  ·rename_i q hq
   simp only [Option.some.injEq] at h;subst h
   obtain ⟨us,h1,rfl⟩:=hu
   exact ⟨us,ysr he hq h1,rfl⟩
  ·cases h
 |fn f ps=>
  simp only [dnC] at h
  split at h
  ·rename_i q hq
   simp only [Option.some.injEq] at h;subst h
   obtain ⟨us,h1,rfl⟩:=hu
   exact ⟨us,ysr he hq h1,rfl⟩
  ·cases h
theorem yn6 {is:List Nat} {E e0:Env} (he:∀ j i:Nat,is[j]? =some i→e0[j]? =E[i]?):∀ {xs ys:List CV} {us:List Value},mapO (dnC is) xs=some ys→AllC E xs us→AllC e0 ys us
 |[],ys,us,h,hu=>by
  simp only [mapO,Option.some.injEq] at h;subst h
  cases us<;>exact hu
 |p::ps,qs,us,h,hu=>by
  cases us with
  |nil=>exact hu.elim
  |cons u us=>
   simp only [mapO] at h
   split at h
   ·cases h
   ·rename_i y hy
    split at h
    ·cases h
    ·rename_i ys hys
     simp only [Option.some.injEq] at h
     subst h
     exact ⟨dnC_is he hy hu.1,yn6 he hys hu.2⟩
def yp2 (K:KS):Prop:=∀ i,allB valB (K.cells i)=true
def ych (hard:β→Bool) (en:En β):Bool:=en.mu&&!yjw hard en
def dnEn (hard:β→Bool) (is:List Nat) (en:En β):Option (En β×List Prop):=match en.ob with
 |.blk cs=>(match mapO (dnP is) cs with
  |some ds=>some (⟨.blk ds,ych hard en⟩,[])
  |none=>none)
 |.bx cs=>(match mapO (dnP is) cs with
  |some ds=>some (⟨.blk ds,ych hard en⟩,[])
  |none=>none)
 |.us b=>some (⟨.us b,ych hard en⟩,[])
 |.sl K b=>some (⟨.sl K b,false⟩,[yp2 K])
 |.dead=>some (⟨.dead,false⟩,[])
theorem yec {K:KS} {b:β} {mu mu':Bool} (h:yp2 K) {e e':Env} {w:World} {u:Value} (hh:Holds I e w u mu (.sl K b)):Holds I e' w u mu' (.sl K b):=by
 obtain ⟨ao,cap,rfl,g1,g2,g3,g4⟩:=hh
 refine ⟨ao,cap,rfl,g1,g2,g3,fun a ha=>⟨(g4 a ha).1,fun i hi j p hp=>?_⟩⟩
 obtain ⟨x,q1,q2⟩:=(g4 a ha).2 i hi j p hp
 exact ⟨x,q1,valB_is (yct (h i) p (zaj hp)) q2⟩
theorem blkDn {is:List Nat} {E e0:Env} (he:∀ j i:Nat,is[j]? =some i→e0[j]? =E[i]?) {cs ds:List PV} (h:mapO (dnP is) cs=some ds) {mu mu':Bool} (hmu:mu'=true→mu=true) {u:Value} (hh:Holds I E w u mu (.blk cs)):Holds I e0 w u mu' (.blk ds):=by
 obtain ⟨b,o,rfl,hc⟩:=hh
 obtain ⟨hl,hg⟩:=yjj h
 refine ⟨b,o,rfl,fun j q hq=>?_⟩
 have hj:j<cs.length:=by rw [← hl];exact (zab.1 hq).1
 obtain ⟨y,hy,hd⟩:=hg j _ (zaa hj)
 rw [hq] at hy;cases hy
 obtain ⟨x,g1,g2,g3⟩:=hc j _ (zaa hj)
 exact ⟨x,g1,dnP_is he hd g2,fun h=>g3 (hmu h)⟩
theorem dnEn_is {is:List Nat} {E e0:Env} (he:∀ j i:Nat,is[j]? =some i→e0[j]? =E[i]?) {en s:En β} {ps:List Prop} (h:dnEn hard is en=some (s,ps)) (hp:∀ p∈ps,p) {u:Value} (hh:Holds I E w u en.mu en.ob):
  Holds I e0 w u s.mu s.ob∧(∀ k,Foot I w u s.ob k→Foot I w u en.ob k)∧(∀ k,Own I w u s.ob k→Own I w u en.ob k)∧(s.mu=true→ych hard en=true):=by
 obtain ⟨ob,mu⟩:=en
 cases ob with
 |blk cs=>
  simp only [dnEn] at h
  split at h
  ·rename_i ds hds
   simp only [Option.some.injEq,Prod.mk.injEq] at h
   obtain ⟨rfl,rfl⟩:=h
   refine ⟨blkDn he hds (fun h=>?_) hh,fun k hk=>hk,fun k hk=>hk,id⟩
   simp only [ych,zbs] at h
   exact h.1
  ·cases h
 |bx cs=>
  simp only [dnEn] at h
  split at h
  ·rename_i ds hds
   simp only [Option.some.injEq,Prod.mk.injEq] at h
   obtain ⟨rfl,rfl⟩:=h
   refine ⟨blkDn he hds (fun h=>?_) hh,fun k hk=>hk,fun k hk=>hk,id⟩
   simp only [ych,zbs] at h
   exact h.1
  ·cases h
 |us b=>
  simp only [dnEn,Option.some.injEq,Prod.mk.injEq] at h
  obtain ⟨rfl,rfl⟩:=h
  exact ⟨hh,fun k hk=>hk,fun k hk=>hk,id⟩
 |sl K b=>
  simp only [dnEn,Option.some.injEq,Prod.mk.injEq] at h
  obtain ⟨rfl,rfl⟩:=h
  exact ⟨yec (hp _ (zal ..)) hh,fun k hk=>hk,fun k hk=>hk,fun h=>by cases h⟩
 |dead=>
  simp only [dnEn,Option.some.injEq,Prod.mk.injEq] at h
  obtain ⟨rfl,rfl⟩:=h
  exact ⟨hh,fun k hk=>hk,fun k hk=>hk,fun h=>by cases h⟩
def dnM (hard:β→Bool) (is:List Nat) (mem:Mem β):List Nat→Option (Mem β×List Prop)
 |[]=>some ([],[])
 |i::r=>match mem[i]? with
  |none=>none
  |some en=>(match dnEn hard is en,dnM hard is mem r with
   |some (s,ps),some (m,qs)=>some (s::m,ps++qs)
   |_,_=>none)
theorem yss {is:List Nat}:∀ {r:List Nat} {sub:Mem β} {ps:List Prop},dnM hard is mem r=some (sub,ps)→(∀ p∈ps,p)→sub.length=r.length∧∀ (j i:Nat) (s:En β),r[j]? =some i→sub[j]? =some s→∃ en qs,mem[i]? =some en∧dnEn hard is en=some (s,qs)∧∀ p∈qs,p
 |[],sub,ps,h,_=>by
  simp only [dnM,Option.some.injEq,Prod.mk.injEq] at h
  obtain ⟨rfl,rfl⟩:=h
  exact ⟨rfl,fun j i s h=>by simp at h⟩
 |i::r,sub,ps,h,hp=>by
  simp only [dnM] at h
  split at h
  ·cases h
  ·rename_i en hen
   split at h
   ·rename_i s qs m rs h1 h2
    simp only [Option.some.injEq,Prod.mk.injEq] at h
    obtain ⟨rfl,rfl⟩:=h
    obtain ⟨g1,g2⟩:=yss h2 fun p hq=>hp p (zag _ hq)
    refine ⟨by simp [g1],fun j i' s' hi hs=>?_⟩
    cases j with
    |zero=>simp at hi hs;subst hi;subst hs;exact ⟨en,qs,hen,h1,fun p hq=>hp p (zah _ hq)⟩
    |succ j=>exact g2 j i' s' (by simpa using hi) (by simpa using hs)
   ·cases h
theorem subR_ok (hM:MemOk W0 G I w E MEM) {is:List Nat} (hn:∀ a b c:Nat,is[a]? =some c→is[b]? =some c→a=b) {sub:Mem β} {ps:List Prop} (hs:dnM hard is MEM is=some (sub,ps)) (hp:∀ p∈ps,p) (hl:e.length=is.length) (he:∀ j i:Nat,is[j]? =some i→e[j]? =E[i]?):
  MemOk w (ybc I w e sub) I w e sub:=by
 obtain ⟨g1,g2⟩:=yss hs hp
 have hget:∀ (j:Nat) (u:Value) (s:En β),e[j]? =some u→sub[j]? =some s→∃ i en,is[j]? =some i∧E[i]? =some u∧MEM[i]? =some en∧Holds I e w u s.mu s.ob∧(∀ k,Foot I w u s.ob k→Foot I w u en.ob k)∧(∀ k,Own I w u s.ob k→Own I w u en.ob k)∧(s.mu=true→ych hard en=true):=fun j u s hu hs'=>by
  have hj:j<is.length:=by rw [← g1];exact (zab.1 hs').1
  have hi:=zaa hj
  obtain ⟨en,qs,h1,h2,h3⟩:=g2 j _ s hi hs'
  have hE:E[is[j]]? =some u:=by rw [← he j _ hi];exact hu
  obtain ⟨q1,q2,q3,q4⟩:=dnEn_is he h2 h3 (hM.holds _ u en hE h1)
  exact ⟨_,en,hi,hE,h1,q1,q2,q3,q4⟩
 refine ⟨by rw [hl,g1],fun j u n hu hn'=>?_,fun j u n hu hn' k hk=>?_,fun j u n hu hn' hmu k hk=>.inr (footE.2 ⟨j,u,n,hu,hn',hmu,hk⟩),fun j j' u v n m hu hn' hmu hv hm hij k hk1 hk2=>?_,Mod.refl _ w,fun j u n hu hn' k hk=>.inr (footO.2 ⟨j,u,n,hu,hn',hk⟩)⟩
 ·obtain ⟨i,en,hi,h1,h2,h3,_⟩:=hget j u n hu hn'
  exact h3
 ·obtain ⟨i,en,hi,h1,h2,h3,h4,_⟩:=hget j u n hu hn'
  exact hM.lt i u en h1 h2 k (h4 k hk)
 ·obtain ⟨i,en,hi,h1,h2,_,_,h4,h5⟩:=hget j u n hu hn'
  obtain ⟨i',en',hi',h1',h2',_,h4',_,_⟩:=hget j' v m hv hm
  have hmu':=h5 hmu
  simp only [ych,zbs] at hmu'
  exact hM.sep i i' u v en en' h1 h2 hmu'.1 h1' h2' (fun e=>hij (by subst e;exact hn j j' i hi hi')) k (h4 k hk1) (h4' k hk2)
def upEn (I:ObI β) (is:List Nat) (m:Nat) (en:En β):En β×List Prop:=match en.mu with
 |false=>(⟨.dead,true⟩,[])
 |true=>(match en.ob with
  |.blk cs=>(⟨.blk (cs.map (renP is m)),true⟩,[])
  |.bx _=>(⟨.dead,true⟩,[])
  |.us b=>(⟨.us b,true⟩,[∀ w u k,I.foot b w u k→I.own b w u k])
  |.sl K b=>(⟨.sl K b,true⟩,[yp2 K])
  |.dead=>(⟨.dead,true⟩,[]))
def asBx (en0 x:En β):En β:=match en0.ob with
 |.bx _=>(match x.ob with
  |.blk cs=>⟨.bx cs,x.mu⟩
  |_=>x)
 |_=>x
theorem asBx_is {en0 x:En β} {e:Env} {w:World} {u:Value} (h:Holds I e w u x.mu x.ob):Holds I e w u (asBx en0 x).mu (asBx en0 x).ob:=by
 obtain ⟨ob,mu⟩:=x
 unfold asBx
 split
 ·cases ob<;>exact h
 ·exact h
theorem asBx_own {en0 x:En β} {w:World} {u:Value} {k:Nat}:Own I w u (asBx en0 x).ob k↔Own I w u x.ob k:=by
 obtain ⟨ob,mu⟩:=x
 unfold asBx
 split
 ·cases ob<;>exact Iff.rfl
 ·exact Iff.rfl
theorem asBx_foot {en0 x:En β} {w:World} {u:Value} {k:Nat}:Foot I w u (asBx en0 x).ob k↔Foot I w u x.ob k:=by
 obtain ⟨ob,mu⟩:=x
 unfold asBx
 split
 ·cases ob<;>exact Iff.rfl
 ·exact Iff.rfl
theorem yg2 {is:List Nat} {m:Nat} (h:∀ (j:Nat) (x:Value),e'[j]? =some x→E[renN is m j]? =some x) {en:En β} (hp:∀ p∈(upEn I is m en).2,p) {u:Value} (hh:Holds I e' w u en.mu en.ob):
  Holds I E w u (upEn I is m en).1.mu (upEn I is m en).1.ob∧(∀ k,Foot I w u (upEn I is m en).1.ob k→en.mu=true∧Own I w u en.ob k)∧(∀ k,Own I w u (upEn I is m en).1.ob k→en.mu=true∧Own I w u en.ob k):=by
 obtain ⟨ob,mu⟩:=en
 cases mu with
 |false=>exact ⟨hh.oneCell,fun k hk=>hk.elim,fun k hk=>hk.elim⟩
 |true=>
  cases ob with
  |blk cs=>
   obtain ⟨b,o,rfl,hc⟩:=hh
   refine ⟨⟨b,o,rfl,fun j q hq=>?_⟩,fun k hk=>⟨rfl,hk⟩,fun k hk=>⟨rfl,hk⟩⟩
   simp only [upEn,zan] at hq
   cases hcj:cs[j]? with
   |none=>rw [hcj] at hq;cases hq
   |some p=>
    rw [hcj] at hq
    simp only [Option.map_some,Option.some.injEq] at hq
    subst hq
    obtain ⟨x,g1,g2,g3⟩:=hc j p hcj
    exact ⟨x,g1,yj3 h g2,g3⟩
  |bx cs=>exact ⟨hh.oneCell,fun k hk=>hk.elim,fun k hk=>hk.elim⟩
  |us b=>exact ⟨hh,fun k hk=>⟨rfl,hp _ (zal ..) w u k hk⟩,fun k hk=>⟨rfl,hk⟩⟩
  |sl K b=>exact ⟨yec (hp _ (zal ..)) hh,fun k hk=>⟨rfl,hk⟩,fun k hk=>⟨rfl,hk⟩⟩
  |dead=>exact ⟨hh,fun k hk=>hk.elim,fun k hk=>hk.elim⟩
def ydz (I:ObI β) (hard:β→Bool) (is:List Nat) (m:Nat):Mem β→List Nat→Mem β→Mem β×List Prop
 |mem,i::r,s::ss=>(match mem[i]? with
  |some en=>(match ych hard en with
   |true=>(match upEn I is m s with|(x,ps)=>(match ydz I hard is m (mem.set i (asBx en x)) r ss with|(m',qs)=>(m',ps++qs)))
   |false=>ydz I hard is m mem r ss)
  |none=>ydz I hard is m mem r ss)
 |mem,_,_=>(mem,[])
def yh6 (I:ObI β) (is:List Nat) (m:Nat):Mem β→Mem β×List Prop
 |[]=>([],[])
 |s::ss=>(match upEn I is m s,yh6 I is m ss with|(x,ps),(m',qs)=>(x::m',ps++qs))
theorem yem {is:List Nat} {m:Nat}:∀ (r:List Nat) (mem ss:Mem β),(ydz I hard is m mem r ss).1.length=mem.length
 |[],mem,ss=>by cases ss<;>rfl
 |i::r,mem,[]=>rfl
 |i::r,mem,s::ss=>by
  simp only [ydz]
  split
  ·split
   ·rw [yem r];simp
   ·exact yem r mem ss
  ·exact yem r mem ss
theorem yel {is:List Nat} {m i:Nat}:∀ (r:List Nat) (mem ss:Mem β),i ∉ r→(ydz I hard is m mem r ss).1[i]? =mem[i]?
 |[],mem,ss,_=>by cases ss<;>rfl
 |j::r,mem,[],_=>rfl
 |j::r,mem,s::ss,h=>by
  have hr:i ∉ r:=fun hm=>h (zak _ hm)
  have hj:j≠i:=fun e=>h (by rw [e];exact zal ..)
  simp only [ydz]
  split
  ·split
   ·rw [yel r _ ss hr,zao hj]
   ·exact yel r mem ss hr
  ·exact yel r mem ss hr
theorem yi5 {is:List Nat} {m:Nat}:∀ (r:List Nat) (mem ss:Mem β) (j i:Nat) (s en:En β),(∀ a b c:Nat,r[a]? =some c→r[b]? =some c→a=b)→r[j]? =some i→ss[j]? =some s→mem[i]? =some en→(∀ p∈(ydz I hard is m mem r ss).2,p)→
  (ych hard en=true→(ydz I hard is m mem r ss).1[i]? =some (asBx en (upEn I is m s).1)∧∀ p∈(upEn I is m s).2,p)∧(ych hard en=false→(ydz I hard is m mem r ss).1[i]? =some en)
 |[],mem,ss,j,i,s,en,_,h,_,_,_=>by simp at h
 |i0::r,mem,[],j,i,s,en,_,_,h,_,_=>by simp at h
 |i0::r,mem,s0::ss,j,i,s,en,hn,hi,hs,hen,hp=>by
  have hn':∀ a b c:Nat,r[a]? =some c→r[b]? =some c→a=b:=fun a b c ha hb=>by
   have:=hn (a+1) (b+1) c (by simpa using ha) (by simpa using hb)
   omega
  have hi0:i0 ∉ r:=fun hm=>by
   obtain ⟨a,ha,hae⟩:=zaz hm
   have:=hn 0 (a+1) i0 rfl (by simpa [ha] using hae)
   omega
  cases j with
  |zero=>
   simp at hi hs
   subst hi;subst hs
   simp only [ydz,hen] at hp ⊢
   cases hsb:ych hard en with
   |true=>
    simp only [hsb] at hp ⊢
    refine ⟨fun _=>⟨?_,fun p hq=>hp p (zah _ hq)⟩,fun h=>by cases h⟩
    rw [yel r _ ss hi0,List.getElem?_set_self (zab.1 hen).1]
   |false=>
    simp only [hsb] at hp ⊢
    exact ⟨(fun h=>by cases h),fun _=>by rw [yel r mem ss hi0];exact hen⟩
  |succ j=>
   have hi':r[j]? =some i:=by simpa using hi
   have hs':ss[j]? =some s:=by simpa using hs
   have hne:i0≠i:=fun e=>hi0 (by rw [e];exact zaj hi')
   cases hm:mem[i0]? with
   |none=>
    simp only [ydz,hm] at hp ⊢
    exact yi5 r mem ss j i s en hn' hi' hs' hen hp
   |some en0=>
    cases hsb:ych hard en0 with
    |true=>
     simp only [ydz,hm,hsb] at hp ⊢
     exact yi5 r _ ss j i s en hn' hi' hs' (by rw [zao hne];exact hen) fun p hq=>hp p (zag _ hq)
    |false=>
     simp only [ydz,hm,hsb] at hp ⊢
     exact yi5 r mem ss j i s en hn' hi' hs' hen hp
theorem yju {is:List Nat} {m:Nat}:∀ (ss:Mem β),(∀ p∈(yh6 I is m ss).2,p)→(yh6 I is m ss).1.length=ss.length∧∀ (j:Nat) (n:En β),(yh6 I is m ss).1[j]? =some n→∃ s,ss[j]? =some s∧n=(upEn I is m s).1∧∀ p∈(upEn I is m s).2,p
 |[],_=>⟨rfl,fun j n h=>by simp [yh6] at h⟩
 |s::ss,hp=>by
  simp only [yh6] at hp ⊢
  obtain ⟨g1,g2⟩:=yju ss fun p hq=>hp p (zag _ hq)
  refine ⟨by simp [g1],fun j n hn=>?_⟩
  cases j with
  |zero=>simp at hn;subst hn;exact ⟨s,rfl,rfl,fun p hq=>hp p (zah _ hq)⟩
  |succ j=>simpa using g2 j n (by simpa using hn)
theorem frameR (hM:MemOk W0 G I w E MEM) {is:List Nat} (hn:∀ a b c:Nat,is[a]? =some c→is[b]? =some c→a=b) (hb:∀ i∈is,i<MEM.length) {sub:Mem β} {ps:List Prop} (hs:dnM hard is MEM is=some (sub,ps)) (hp:∀ p∈ps,p)
  (hl:e.length=is.length) (he:∀ j i:Nat,is[j]? =some i→e[j]? =E[i]?) (h':MemOk w (ybc I w e sub) I w' e' ms) (hg:Grows e e') (hk:is.length≤ms.length)
  (hp1:∀ p∈(ydz I hard is MEM.length MEM is ms).2,p) (hp2:∀ p∈(yh6 I is MEM.length (ms.drop is.length)).2,p):
  MemOk W0 G I w' (E++e'.drop is.length) ((ydz I hard is MEM.length MEM is ms).1++(yh6 I is MEM.length (ms.drop is.length)).1)∧∀ (j:Nat) (x:Value),e'[j]? =some x→(E++e'.drop is.length)[renN is MEM.length j]? =some x:=by
 have hle':e'.length=ms.length:=h'.len
 have hEl:E.length=MEM.length:=hM.len
 obtain ⟨g1,g2⟩:=yss hs hp
 have hren:∀ (j:Nat) (x:Value),e'[j]? =some x→(E++e'.drop is.length)[renN is MEM.length j]? =some x:=fun j u hj=>by
  unfold renN
  cases hji:is[j]? with
  |some i=>
   simp only
   have hlt:i<E.length:=by rw [hEl];exact hb i (zaj hji)
   rw [zad hlt]
   have h1:=he j i hji
   rw [zaa hlt] at h1 ⊢
   have:=hg j _ h1
   rw [hj] at this
   exact this.symm
  |none=>
   simp only
   have hge:is.length≤j:=by
    rcases zbk j is.length with h|h
    ·rw [zaa h] at hji;cases hji
    ·exact h
   rw [← hEl,zac (by omega),zap,show is.length+(E.length+(j - is.length) - E.length)=j by omega]
   exact hj
 refine ⟨?_,hren⟩
 have hFM:∀ k,OwnOf I w e sub k→∃ (i:Nat) (u:Value) (n:En β),i∈is∧E[i]? =some u∧MEM[i]? =some n∧ych hard n=true∧Own I w u n.ob k:=fun k ⟨j,u,n,hu,hn',hmu',hf⟩=>by
  have hj:j<is.length:=by rw [← g1];exact (zab.1 hn').1
  have hi:=zaa hj
  obtain ⟨en,qs,h1,h2,h3⟩:=g2 j _ n hi hn'
  have hE:E[is[j]]? =some u:=by rw [← he j _ hi];exact hu
  obtain ⟨_,_,q3,q4⟩:=dnEn_is he h2 h3 (hM.holds _ u en hE h1)
  exact ⟨_,u,en,List.getElem_mem hj,hE,h1,q4 hmu',q3 k hf⟩
 have hmd:Mod (OwnOf I w e sub) w w':=h'.mod.mono fun k _ hk=>footE.1 hk
 have soft:∀ n:En β,ych hard n=true→n.mu=true:=fun n h=>by
  simp only [ych,zbs] at h;exact h.1
 have hdis:∀ (i:Nat) (u:Value) (n:En β),(i ∉ is∨ych hard n=false)→E[i]? =some u→MEM[i]? =some n→∀ k,Foot I w u n.ob k→¬ OwnOf I w e sub k:=fun i u n hi hu hn' k hk hF=>by
  obtain ⟨i2,u2,n2,h2,q1,q2,q3,q4⟩:=hFM k hF
  refine hM.sep i2 i u2 u n2 n q1 q2 (soft _ q3) hu hn' (fun e=>?_) k q4 hk
  subst e
  rcases hi with hi|hi
  ·exact hi h2
  ·rw [hn'] at q2;cases q2;rw [hi] at q3;cases q3
 -- an entry that is not turned
 have hout:∀ (i:Nat) (u:Value) (n:En β),(i ∉ is∨ych hard n=false)→E[i]? =some u→MEM[i]? =some n→Holds I E w' u n.mu n.ob∧∀ k,Foot I w' u n.ob k→Foot I w u n.ob k:=fun i u n hi hu hn'=>
  (hM.holds i u n hu hn').stay hmd (hdis i u n hi hu hn')
 have houtO:∀ (i:Nat) (u:Value) (n:En β),(i ∉ is∨ych hard n=false)→E[i]? =some u→MEM[i]? =some n→∀ k,Own I w' u n.ob k→Own I w u n.ob k:=fun i u n hi hu hn'=>
  (hM.holds i u n hu hn').stayO hmd (hdis i u n hi hu hn')
 -- what is there behind the call
 have hget:∀ (i:Nat) (u:Value) (n:En β),(E++e'.drop is.length)[i]? =some u→((ydz I hard is MEM.length MEM is ms).1++(yh6 I is MEM.length (ms.drop is.length)).1)[i]? =some n→
   (i<MEM.length∧E[i]? =some u∧MEM[i]? =some n∧(i ∉ is∨ych hard n=false))∨∃ j s en0,e'[j]? =some u∧ms[j]? =some s∧n=asBx en0 (upEn I is MEM.length s).1∧(∀ p∈(upEn I is MEM.length s).2,p)∧((is[j]? =some i∧i<MEM.length∧∃ en,MEM[i]? =some en∧E[i]? =some u∧ych hard en=true)∨(is.length≤j∧i=MEM.length+(j - is.length))):=fun i u n hu hn'=>by
  have hsl:=yem (I:=I) (hard:=hard) (is:=is) (m:=MEM.length) is MEM ms
  rcases zbk i MEM.length with hi|hi
  ·rw [zad (by omega)] at hu
   rw [zad (by omega)] at hn'
   by_cases him:i∈is
   ·obtain ⟨j,hj,hje⟩:=zaz him
    have hji:is[j]? =some i:=by rw [zaa hj,hje]
    have hjm:j<ms.length:=by omega
    obtain ⟨a1,a2⟩:=yi5 is MEM ms j i _ _ hn hji (zaa hjm) (zaa hi) hp1
    cases hsb:ych hard MEM[i] with
    |true=>
     obtain ⟨b1,b2⟩:=a1 hsb
     rw [b1] at hn'
     simp only [Option.some.injEq] at hn'
     exact .inr ⟨j,_,_,hg j u (by rw [he j i hji];exact hu),zaa hjm,hn'.symm,b2,.inl ⟨hji,hi,_,zaa hi,hu,hsb⟩⟩
    |false=>
     rw [a2 hsb] at hn'
     simp only [Option.some.injEq] at hn'
     subst hn'
     exact .inl ⟨hi,hu,zaa hi,.inr hsb⟩
   ·rw [yel is MEM ms him] at hn'
    exact .inl ⟨hi,hu,hn',.inl him⟩
  ·rw [zac (by omega),zap] at hu
   rw [zac (by omega),hsl] at hn'
   rw [hEl] at hu
   obtain ⟨s,h1,h2,h3⟩:=(yju _ hp2).2 _ n hn'
   rw [zap] at h1
   exact .inr ⟨is.length+(i - MEM.length),s,⟨.dead,true⟩,hu,h1,h2,h3,.inr ⟨by omega,by omega⟩⟩
 -- what the callee left
 have hinO:∀ (j:Nat) (u:Value) (s:En β),e'[j]? =some u→ms[j]? =some s→s.mu=true→∀ k,Own I w' u s.ob k→w.heap.size≤k∨∃ (i:Nat) (u2:Value) (n2:En β),i∈is∧E[i]? =some u2∧MEM[i]? =some n2∧ych hard n2=true∧Own I w u2 n2.ob k:=fun j u s hu hs' hmu k hk=>by
  rcases h'.own j u s hu hs' hmu k hk with h1|h1
  ·exact .inl h1
  ·exact .inr (hFM k (footE.1 h1))
 have hnew:=(yju _ hp2).1
 refine ⟨?_,fun i u n hu hn'=>?_,fun i u n hu hn' k hk=>?_,fun i u n hu hn' hmv k hk=>?_,fun i1 i2 u1 u2 n1 n2 hu1 hn1 hmv hu2 hn2 hij k hk1 hk2=>?_,?_,fun i u n hu hn' k hk=>?_⟩
 ·rw [zae,zae,yem,hnew,hEl,zav,zav,hle']
 ·rcases hget i u n hu hn' with ⟨_,h1,h2,h3⟩|⟨j,s,en0,h1,h2,rfl,h4,_⟩
  ·exact ((hout i u n h3 h1 h2).1).mono fun a x hx=>by rw [zad (zab.1 hx).1];exact hx
  ·exact asBx_is (yg2 hren h4 (h'.holds j u s h1 h2)).1
 ·rcases hget i u n hu hn' with ⟨_,h1,h2,h3⟩|⟨j,s,en0,h1,h2,rfl,h4,_⟩
  ·exact Nat.lt_of_lt_of_le (hM.lt i u n h1 h2 k ((hout i u n h3 h1 h2).2 k hk)) h'.mod.size
  ·exact h'.lt j u s h1 h2 k ((yg2 hren h4 (h'.holds j u s h1 h2)).2.1 k (asBx_foot.1 hk)).2.foot
 ·rcases hget i u n hu hn' with ⟨_,h1,h2,h3⟩|⟨j,s,en0,h1,h2,rfl,h4,_⟩
  ·exact hM.own i u n h1 h2 hmv k (houtO i u n h3 h1 h2 k hk)
  ·obtain ⟨q1,q2⟩:=(yg2 hren h4 (h'.holds j u s h1 h2)).2.2 k (asBx_own.1 hk)
   rcases hinO j u s h1 h2 q1 k q2 with h3|⟨i2,u2,n2,_,f1,f2,f3,f4⟩
   ·exact .inl (zbl hM.mod.size h3)
   ·exact hM.own i2 u2 n2 f1 f2 (soft _ f3) k f4
 ·rcases hget i1 u1 n1 hu1 hn1 with ⟨_,h1,h2,h3⟩|⟨j1,s1,en1,h1,h2,rfl,h4,hp1'⟩
  ·have q1:=houtO i1 u1 n1 h3 h1 h2 k hk1
   rcases hget i2 u2 n2 hu2 hn2 with ⟨_,f1,f2,f3⟩|⟨j2,s2,en2,f1,f2,rfl,f4,_⟩
   ·exact hM.sep i1 i2 u1 u2 n1 n2 h1 h2 hmv f1 f2 hij k q1 ((hout i2 u2 n2 f3 f1 f2).2 k hk2)
   ·obtain ⟨r1,r2⟩:=(yg2 hren f4 (h'.holds j2 u2 s2 f1 f2)).2.1 k (asBx_foot.1 hk2)
    rcases hinO j2 u2 s2 f1 f2 r1 k r2 with h5|⟨i3,u3,n3,h5,d1,d2,d3,d4⟩
    ·have:=hM.lt i1 u1 n1 h1 h2 k q1.foot;omega
    ·refine hM.sep i3 i1 u3 u1 n3 n1 d1 d2 (soft _ d3) h1 h2 (fun e=>?_) k d4 q1.foot
     subst e
     rcases h3 with h3|h3
     ·exact h3 h5
     ·rw [h2] at d2;cases d2;rw [h3] at d3;cases d3
  ·obtain ⟨r1,r2⟩:=(yg2 hren h4 (h'.holds j1 u1 s1 h1 h2)).2.2 k (asBx_own.1 hk1)
   rcases hget i2 u2 n2 hu2 hn2 with ⟨_,f1,f2,f3⟩|⟨j2,s2,en2,f1,f2,rfl,f4,hp2'⟩
   ·have q2:=(hout i2 u2 n2 f3 f1 f2).2 k hk2
    rcases hinO j1 u1 s1 h1 h2 r1 k r2 with h5|⟨i3,u3,n3,h5,d1,d2,d3,d4⟩
    ·have:=hM.lt i2 u2 n2 f1 f2 k q2;omega
    ·refine hM.sep i3 i2 u3 u2 n3 n2 d1 d2 (soft _ d3) f1 f2 (fun e=>?_) k d4 q2
     subst e
     rcases f3 with f3|f3
     ·exact f3 h5
     ·rw [f2] at d2;cases d2;rw [f3] at d3;cases d3
   ·obtain ⟨z1,z2⟩:=(yg2 hren f4 (h'.holds j2 u2 s2 f1 f2)).2.1 k (asBx_foot.1 hk2)
    refine h'.sep j1 j2 u1 u2 s1 s2 h1 h2 r1 f1 f2 (fun e=>hij ?_) k r2 z2.foot
    subst e
    rcases hp1' with ⟨a1,a2,_⟩|⟨a1,a2⟩
    ·rcases hp2' with ⟨b1,b2,_⟩|⟨b1,b2⟩
     ·rw [a1] at b1;cases b1;rfl
     ·have:=(zab.1 a1).1;omega
    ·rcases hp2' with ⟨b1,b2,_⟩|⟨b1,b2⟩
     ·have:=(zab.1 b1).1;omega
     ·omega
 ·refine Mod.trans hM.mod hmd fun k hF hl0=>?_
  obtain ⟨i,u,n,_,q1,q2,q3,q4⟩:=hFM k hF
  rcases hM.own i u n q1 q2 (soft _ q3) k q4 with h|h
  ·omega
  ·exact h
 ·rcases hget i u n hu hn' with ⟨_,h1,h2,h3⟩|⟨j,s,en0,h1,h2,rfl,h4,_⟩
  ·exact hM.rd i u n h1 h2 k ((hout i u n h3 h1 h2).2 k hk)
  ·obtain ⟨q1,q2⟩:=(yg2 hren h4 (h'.holds j u s h1 h2)).2.1 k (asBx_foot.1 hk)
   rcases hinO j u s h1 h2 q1 k q2 with h3|⟨i2,u2,n2,_,f1,f2,f3,f4⟩
   ·exact .inl (zbl hM.mod.size h3)
   ·exact hM.rd i2 u2 n2 f1 f2 k f4.foot
def RT.al:RT β→List Bool→Option (List Prop×SV×SSt β)
 |.leaf x s,[]=>some ([],x,s)
 |.leaf _ _,_::_=>none
 |.br _ _ _,[]=>none
 |.br b t e,c::cs=>(match c with
  |true=>(match t.al cs with|some (ps,r)=>some ((b=true)::ps,r)|none=>none)
  |false=>(match e.al cs with|some (ps,r)=>some ((b=false)::ps,r)|none=>none))
 |.need ps t,cs=>(match t.al cs with|some (qs,r)=>some (ps++qs,r)|none=>none)
 |.fail,_=>none
theorem RT.al_holds:∀ {t:RT β} {cs:List Bool} {ps:List Prop} {x:SV} {s:SSt β},t.al cs=some (ps,x,s)→(∀ p∈ps,p)→t.holds fun y s'=>y=x∧s'=s
 |.leaf x0 s0,[],ps,x,s,h,_=>by
  simp only [RT.al,Option.some.injEq,Prod.mk.injEq] at h
  obtain ⟨_,rfl,rfl⟩:=h
  exact ⟨rfl,rfl⟩
 |.leaf _ _,_::_,_,_,_,h,_=>by simp [RT.al] at h
 |.br _ _ _,[],_,_,_,h,_=>by simp [RT.al] at h
 |.br b t e,c::cs,ps,x,s,h,hp=>by
  simp only [RT.al] at h
  split at h
  ·split at h
   ·rename_i qs r hr
    simp only [Option.some.injEq,Prod.mk.injEq] at h
    obtain ⟨rfl,rfl⟩:=h
    have hb:b=true:=hp _ (zal ..)
    subst hb
    exact ⟨fun _=>al_holds hr (fun p hq=>hp p (zak _ hq)),fun h=>by cases h⟩
   ·cases h
  ·split at h
   ·rename_i qs r hr
    simp only [Option.some.injEq,Prod.mk.injEq] at h
    obtain ⟨rfl,rfl⟩:=h
    have hb:b=false:=hp _ (zal ..)
    subst hb
    exact ⟨(fun h=>by cases h),fun _=>al_holds hr (fun p hq=>hp p (zak _ hq))⟩
   ·cases h
 |.need ps0 t,cs,ps,x,s,h,hp=>by
  simp only [RT.al] at h
  split at h
  ·rename_i qs r hr
   simp only [Option.some.injEq,Prod.mk.injEq] at h
   obtain ⟨rfl,rfl⟩:=h
   exact ⟨fun p hq=>hp p (zah _ hq),al_holds (t:=t) hr (fun p hq=>hp p (zag _ hq))⟩
  ·cases h
 |.fail,_,_,_,_,h,_=>by simp [RT.al] at h
def inlO (I:ObI β) (hard:β→Bool) (mem:Mem β) (is:List Nat) (qs:List Prop) (r:Option (List Prop×SV×SSt β)):Option (List Prop×SV×Option (Mem β)):=match r with
 |some (ps,x,s)=>(match leb is.length s.mem.length&&yl4 x with
  |true=>some (qs++(ps++((ydz I hard is mem.length mem is s.mem).2++(yh6 I is mem.length (s.mem.drop is.length)).2)),renS is mem.length x,some ((ydz I hard is mem.length mem is s.mem).1++(yh6 I is mem.length (s.mem.drop is.length)).1))
  |false=>none)
 |none=>none
def inlF (I:ObI β) (S:Sy β) (L:Lps β) (fn:Func) (cs:List Bool) (hard:β→Bool):Fn2 β:=fun us mem=>ymf (cloH mem mem.length 0 (hsCs us [])) fun is=>
 match (yhv is&&ltB mem.length is)&&leb us.length fn.ntmps,mapO (dnC is) us,dnM hard is mem is with
 |true,some us0,some (sub,qs)=>inlO I hard mem is qs ((ybu S L fn us0 sub).al cs)
 |_,_,_=>none
theorem mapO_len {α γ:Type} {f:α→Option γ} {l:List α} {r:List γ} (h:mapO f l=some r):r.length=l.length:=(yjj h).1
theorem yg8 {f:FuncId} {fn:Func} {cs:List Bool} (hP:S.P=P) (hS:∀ W0 G,SyOk S I W0 G) (hf:P.funcs[f]? =some fn) (hb:fn.body=some (yat fn)) (hL:∀ W0 G,LpsOk S I W0 G L fn.ntmps (yat fn)) (he:∀ us w,(callFunc f us).run P w=.ok (.enter f us) w):
  RowOk P I hard f (inlF I S L fn cs hard):=by
 subst hP
 have key:∀ us mem ps r mo,inlF I S L fn cs hard us mem=some (ps,r,mo)→∃ is us0 sub qs pps x s,(yhv is&&ltB mem.length is)=true∧leb us.length fn.ntmps=true∧mapO (dnC is) us=some us0∧dnM hard is mem is=some (sub,qs)∧
   (ybu S L fn us0 sub).al cs=some (pps,x,s)∧leb is.length s.mem.length=true∧yl4 x=true∧ps=qs++(pps++((ydz I hard is mem.length mem is s.mem).2++(yh6 I is mem.length (s.mem.drop is.length)).2))∧r=renS is mem.length x∧
   mo=some ((ydz I hard is mem.length mem is s.mem).1++(yh6 I is mem.length (s.mem.drop is.length)).1):=fun us mem ps r mo h=>by
  unfold inlF at h
  rw [yez] at h
  split at h
  ·rename_i us0 sub qs hB h1 h2
   rw [zbs] at hB
   unfold inlO at h
   split at h
   ·rename_i pps x s hr
    split at h
    ·rename_i hx
     rw [zbs] at hx
     simp only [Option.some.injEq,Prod.mk.injEq] at h
     obtain ⟨rfl,rfl,rfl⟩:=h
     exact ⟨_,us0,sub,qs,pps,x,s,hB.1,hB.2,h1,h2,hr,hx.1,hx.2,rfl,rfl,rfl⟩
    ·cases h
   ·cases h
  ·cases h
 refine ⟨he,fun W0 G args mem ps r mo hr hp w E us hM ha=>?_,fun args m m' ps r hr=>?_,fun args mem ps r m' hr=>?_⟩
 ·obtain ⟨is,us0,sub,qs,pps,x,s,hB,hlen,h1,h2,h3,h4,h5,rfl,rfl,rfl⟩:=key args mem ps r mo hr
  rw [zbs] at hB
  have hn:=ycx hB.1
  have hb':=yki hB.2
  let e:Env:=is.map fun i=>E.getD i undef
  have hel:e.length=is.length:=by simp [e]
  have hee:∀ j i:Nat,is[j]? =some i→e[j]? =E[i]? :=fun j i hj=>by
   have hlt:i<E.length:=by rw [hM.len];exact hb' i (zaj hj)
   simp only [e,zan,hj,Option.map_some,List.getD_eq_getElem?_getD]
   rw [zaa hlt];rfl
  have q1:∀ p∈qs,p:=fun p h=>hp p (zah _ h)
  have q2:∀ p∈pps,p:=fun p h=>hp p (zag _ (zah _ h))
  have q3:=fun p h=>hp p (zag _ (zag _ (zah _ h)))
  have q4:=fun p h=>hp p (zag _ (zag _ (zag _ h)))
  have hsub:=subR_ok hM hn h2 q1 hel hee
  refine yeo (hS w _) hf hb (hL w _) (yn6 hee h1 ha) (by rw [mapO_len h1];exact hlen) hsub (RT.al_holds h3 q2) ?_
  rintro y s' e' w' v hg ⟨rfl,rfl⟩ hy hM'
  obtain ⟨f1,f2⟩:=frameR hM hn hb' h2 q1 hel hee hM' hg (leb_le.1 h4) q3 q4
  exact ⟨v,rfl,E++e'.drop is.length,fun i u hu=>by rw [zad (zab.1 hu).1];exact hu,yrq f2 h5 hy,f1⟩
 ·obtain ⟨is,us0,sub,qs,pps,x,s,_,_,_,_,_,_,_,_,_,h⟩:=key args m ps r none hr
  cases h
 ·obtain ⟨is,us0,sub,qs,pps,x,s,hB,hlen,h1,h2,h3,h4,h5,_,_,hm⟩:=key args mem ps r (some m') hr
  simp only [Option.some.injEq] at hm
  subst hm
  rw [zbs] at hB
  have hn:=ycx hB.1
  intro i en hi hsol
  have hlt:i<mem.length:=(zab.1 hi).1
  rw [zad (by rw [yem];exact hlt)]
  have hns:ych hard en=false:=by simp [ych,hsol]
  have gen:∀ (r:List Nat) (mm ss:Mem β),mm[i]? =some en→(ydz I hard is mem.length mm r ss).1[i]? =some en:=by
   intro r
   induction r with
   |nil=>intro mm ss h;cases ss<;>exact h
   |cons j r ih=>
    intro mm ss h
    cases ss with
    |nil=>exact h
    |cons s0 ss=>
     simp only [ydz]
     split
     ·rename_i en0 hen0
      split
      ·rename_i hsb
       refine ih _ _ ?_
       have hne:j≠i:=fun e=>by subst e;rw [h] at hen0;cases hen0;rw [hns] at hsb;cases hsb
       rw [zao hne];exact h
      ·exact ih _ _ h
     ·exact ih _ _ h
  exact gen is mem s.mem hi
end
end Go.Proofs.Ytiiekgcjilelpaa
