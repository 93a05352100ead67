/- T17. -/
import Derived.Test.YtiiekgcjilelpaaT16p
open List renaming getElem?_eq_getElem → zaa, getElem?_eq_some_iff → zab, getElem?_append_right → zac, getElem?_append_left → zad, length_append → zae, mem_append_right → zag, mem_append_left → zah, mem_of_getElem? → zaj, mem_cons_of_mem → zak, mem_cons_self → zal, getElem?_map → zan, getElem?_set_ne → zao, getElem?_drop → zap, length_drop → zav, getElem_of_mem → zaz
open Nat renaming lt_or_ge → zbk, le_trans → zbl
open Bool renaming and_eq_true → zbs, or_eq_true → zbt
set_option linter.unusedSimpArgs false
set_option linter.unusedVariables false
namespace Go.Proofs.Ytiiekgcjilelpaa
open Go.RowKit
section
variable {β:Type} {S:Sy β} {I:ObI β} {W0:World} {G:Nat→Prop} {L:Lps β} {P:Program} {w w':World} {E e e':Env} {MEM mem ms:Mem β} {hard:β→Bool}
def isUsB (en:En β):Bool:=match en.ob with
 |.us _=>true
 |_=>false
def givB (hard:β→Bool) (en:En β):Bool:=en.mu&&(!yjw hard en||isUsB en)
def yqf (hard:β→Bool) (is:List Nat) (en:En β):Option (En β×List Prop):=match en.ob with
 |.blk cs=>(match mapO (dnP is) cs with
  |some ds=>some (⟨.blk ds,givB hard en⟩,[])
  |none=>none)
 |.bx cs=>(match mapO (dnP is) cs with
  |some ds=>some (⟨.bx ds,givB hard en⟩,[])
  |none=>none)
 |.us b=>some (⟨.us b,givB hard en⟩,[])
 |.sl K b=>some (⟨.sl K b,false⟩,[yp2 K])
 |.dead=>some (⟨.dead,false⟩,[])
theorem yn5 {is:List Nat} {E e0:Env} (he:∀ j i:Nat,is[j]? =some i→e0[j]? =E[i]?) {en s:En β} {ps:List Prop} (h:yqf hard is en=some (s,ps)) (hp:∀ p∈ps,p) {u:Value} (hh:Holds I E w u en.mu en.ob):
  Holds I e0 w u s.mu s.ob∧(∀ k,Foot I w u s.ob k→Foot I w u en.ob k)∧(∀ k,Own I w u s.ob k→Own I w u en.ob k)∧(s.mu=true→givB hard en=true):=by
 obtain ⟨ob,mu⟩:=en
 cases ob with
 |blk cs=>
  simp only [yqf] at h
  split at h
  ·rename_i ds hds
   simp only [Option.some.injEq,Prod.mk.injEq] at h
   obtain ⟨rfl,rfl⟩:=h
   refine ⟨blkDn he hds (fun h=>?_) hh,fun k hk=>hk,fun k hk=>hk,id⟩
   simp only [givB,zbs] at h
   exact h.1
  ·cases h
 |bx cs=>
  simp only [yqf] at h
  split at h
  ·rename_i ds hds
   simp only [Option.some.injEq,Prod.mk.injEq] at h
   obtain ⟨rfl,rfl⟩:=h
   refine ⟨blkDn (I:=I) (mu:=mu) (mu':=givB hard ⟨.bx cs,mu⟩) he hds (fun h=>?_) hh,fun k hk=>hk,fun k hk=>hk,id⟩
   simp only [givB,zbs] at h
   exact h.1
  ·cases h
 |us b=>
  simp only [yqf,Option.some.injEq,Prod.mk.injEq] at h
  obtain ⟨rfl,rfl⟩:=h
  exact ⟨hh,fun k hk=>hk,fun k hk=>hk,id⟩
 |sl K b=>
  simp only [yqf,Option.some.injEq,Prod.mk.injEq] at h
  obtain ⟨rfl,rfl⟩:=h
  exact ⟨yec (hp _ (zal ..)) hh,fun k hk=>hk,fun k hk=>hk,fun h=>by cases h⟩
 |dead=>
  simp only [yqf,Option.some.injEq,Prod.mk.injEq] at h
  obtain ⟨rfl,rfl⟩:=h
  exact ⟨hh,fun k hk=>hk,fun k hk=>hk,fun h=>by cases h⟩
def dnMG (hard:β→Bool) (is:List Nat) (mem:Mem β):List Nat→Option (Mem β×List Prop)
 |[]=>some ([],[])
 |i::r=>match mem[i]? with
  |none=>none
  |some en=>(match yqf hard is en,dnMG hard is mem r with
   |some (s,ps),some (m,qs)=>some (s::m,ps++qs)
   |_,_=>none)
theorem yn4 {is:List Nat}:∀ {r:List Nat} {sub:Mem β} {ps:List Prop},dnMG hard is mem r=some (sub,ps)→(∀ p∈ps,p)→sub.length=r.length∧∀ (j i:Nat) (s:En β),r[j]? =some i→sub[j]? =some s→∃ en qs,mem[i]? =some en∧yqf hard is en=some (s,qs)∧∀ p∈qs,p
 |[],sub,ps,h,_=>by
  simp only [dnMG,Option.some.injEq,Prod.mk.injEq] at h
  obtain ⟨rfl,rfl⟩:=h
  exact ⟨rfl,fun j i s h=>by simp at h⟩
 |i::r,sub,ps,h,hp=>by
  simp only [dnMG] at h
  split at h
  ·cases h
  ·rename_i en hen
   split at h
   ·rename_i s qs m rs h1 h2
    simp only [Option.some.injEq,Prod.mk.injEq] at h
    obtain ⟨rfl,rfl⟩:=h
    obtain ⟨g1,g2⟩:=yn4 h2 fun p hq=>hp p (zag _ hq)
    refine ⟨by simp [g1],fun j i' s' hi hs=>?_⟩
    cases j with
    |zero=>simp at hi hs;subst hi;subst hs;exact ⟨en,qs,hen,h1,fun p hq=>hp p (zah _ hq)⟩
    |succ j=>exact g2 j i' s' (by simpa using hi) (by simpa using hs)
   ·cases h
theorem subG_ok (hM:MemOk W0 G I w E MEM) {is:List Nat} (hn:∀ a b c:Nat,is[a]? =some c→is[b]? =some c→a=b) {sub:Mem β} {ps:List Prop} (hs:dnMG hard is MEM is=some (sub,ps)) (hp:∀ p∈ps,p) (hl:e.length=is.length) (he:∀ j i:Nat,is[j]? =some i→e[j]? =E[i]?):
  MemOk w (ybc I w e sub) I w e sub:=by
 obtain ⟨g1,g2⟩:=yn4 hs hp
 have hget:∀ (j:Nat) (u:Value) (s:En β),e[j]? =some u→sub[j]? =some s→∃ i en,is[j]? =some i∧E[i]? =some u∧MEM[i]? =some en∧Holds I e w u s.mu s.ob∧(∀ k,Foot I w u s.ob k→Foot I w u en.ob k)∧(∀ k,Own I w u s.ob k→Own I w u en.ob k)∧(s.mu=true→givB hard en=true):=fun j u s hu hs'=>by
  have hj:j<is.length:=by rw [← g1];exact (zab.1 hs').1
  have hi:=zaa hj
  obtain ⟨en,qs,h1,h2,h3⟩:=g2 j _ s hi hs'
  have hE:E[is[j]]? =some u:=by rw [← he j _ hi];exact hu
  obtain ⟨q1,q2,q3,q4⟩:=yn5 he h2 h3 (hM.holds _ u en hE h1)
  exact ⟨_,en,hi,hE,h1,q1,q2,q3,q4⟩
 refine ⟨by rw [hl,g1],fun j u n hu hn'=>?_,fun j u n hu hn' k hk=>?_,fun j u n hu hn' hmu k hk=>.inr (footE.2 ⟨j,u,n,hu,hn',hmu,hk⟩),fun j j' u v n m hu hn' hmu hv hm hij k hk1 hk2=>?_,Mod.refl _ w,fun j u n hu hn' k hk=>.inr (footO.2 ⟨j,u,n,hu,hn',hk⟩)⟩
 ·obtain ⟨i,en,hi,h1,h2,h3,_⟩:=hget j u n hu hn'
  exact h3
 ·obtain ⟨i,en,hi,h1,h2,h3,h4,_⟩:=hget j u n hu hn'
  exact hM.lt i u en h1 h2 k (h4 k hk)
 ·obtain ⟨i,en,hi,h1,h2,_,_,h4,h5⟩:=hget j u n hu hn'
  obtain ⟨i',en',hi',h1',h2',_,h4',_,_⟩:=hget j' v m hv hm
  have hmu':=h5 hmu
  simp only [givB,zbs] at hmu'
  exact hM.sep i i' u v en en' h1 h2 hmu'.1 h1' h2' (fun e=>hij (by subst e;exact hn j j' i hi hi')) k (h4 k hk1) (h4' k hk2)
def ygu (I:ObI β) (is:List Nat) (m:Nat) (en:En β):En β×List Prop:=match en.ob with
 |.blk cs=>(match en.mu with
  |true=>(⟨.blk (cs.map (renP is m)),true⟩,[])
  |false=>(⟨.dead,true⟩,[]))
 |.bx cs=>(match en.mu with
  |true=>(⟨.bx (cs.map (renP is m)),true⟩,[])
  |false=>(⟨.dead,true⟩,[]))
 |.us b=>(⟨.us b,en.mu⟩,[])
 |.sl K b=>(⟨.sl K b,en.mu⟩,[yp2 K])
 |.dead=>(⟨.dead,true⟩,[])
theorem asBx_mu {en0 x:En β}:(asBx en0 x).mu=x.mu:=by
 obtain ⟨ob,mu⟩:=x
 unfold asBx
 split
 ·cases ob<;>rfl
 ·rfl
theorem ye5 {is:List Nat} {m:Nat} (h:∀ (j:Nat) (x:Value),e'[j]? =some x→E[renN is m j]? =some x) {en:En β} (hp:∀ p∈(ygu I is m en).2,p) {u:Value} (hh:Holds I e' w u en.mu en.ob):
  Holds I E w u (ygu I is m en).1.mu (ygu I is m en).1.ob∧(∀ k,Foot I w u (ygu I is m en).1.ob k→Foot I w u en.ob k)∧((ygu I is m en).1.mu=true→∀ k,Own I w u (ygu I is m en).1.ob k→en.mu=true∧Own I w u en.ob k):=by
 obtain ⟨ob,mu⟩:=en
 cases ob with
 |blk cs=>
  cases mu with
  |false=>exact ⟨hh.oneCell,fun k hk=>hk.elim,fun _ k hk=>hk.elim⟩
  |true=>
   obtain ⟨b,o,rfl,hc⟩:=hh
   refine ⟨⟨b,o,rfl,fun j q hq=>?_⟩,fun k hk=>hk,fun _ k hk=>⟨rfl,hk⟩⟩
   simp only [ygu,zan] at hq
   cases hcj:cs[j]? with
   |none=>rw [hcj] at hq;cases hq
   |some p=>
    rw [hcj] at hq
    simp only [Option.map_some,Option.some.injEq] at hq
    subst hq
    obtain ⟨x,g1,g2,g3⟩:=hc j p hcj
    exact ⟨x,g1,yj3 h g2,g3⟩
 |bx cs=>
  cases mu with
  |false=>exact ⟨hh.oneCell,fun k hk=>hk.elim,fun _ k hk=>hk.elim⟩
  |true=>
   obtain ⟨b,o,rfl,hc⟩:=hh
   refine ⟨⟨b,o,rfl,fun j q hq=>?_⟩,fun k hk=>hk,fun _ k hk=>⟨rfl,hk⟩⟩
   simp only [ygu,zan] at hq
   cases hcj:cs[j]? with
   |none=>rw [hcj] at hq;cases hq
   |some p=>
    rw [hcj] at hq
    simp only [Option.map_some,Option.some.injEq] at hq
    subst hq
    obtain ⟨x,g1,g2,g3⟩:=hc j p hcj
    exact ⟨x,g1,yj3 h g2,g3⟩
 |us b=>exact ⟨hh,fun k hk=>hk,fun hm k hk=>⟨hm,hk⟩⟩
 |sl K b=>exact ⟨yec (hp _ (zal ..)) hh,fun k hk=>hk,fun hm k hk=>⟨hm,hk⟩⟩
 |dead=>exact ⟨hh,fun k hk=>hk.elim,fun _ k hk=>hk.elim⟩
def ycb (I:ObI β) (hard:β→Bool) (is:List Nat) (m:Nat):Mem β→List Nat→Mem β→Mem β×List Prop
 |mem,i::r,s::ss=>(match mem[i]? with
  |some en=>(match ych hard en with
   |true=>(match ygu I is m s with|(x,ps)=>(match ycb I hard is m (mem.set i (asBx en x)) r ss with|(m',qs)=>(m',ps++qs)))
   |false=>(match givB hard en with
    |true=>(match ycb I hard is m mem r ss with|(m',qs)=>(m',(s=en)::qs))
    |false=>ycb I hard is m mem r ss))
  |none=>ycb I hard is m mem r ss)
 |mem,_,_=>(mem,[])
def yen (I:ObI β) (is:List Nat) (m:Nat):Mem β→Mem β×List Prop
 |[]=>([],[])
 |s::ss=>(match ygu I is m s,yen I is m ss with|(x,ps),(m',qs)=>(x::m',ps++qs))
theorem yda {is:List Nat} {m:Nat}:∀ (r:List Nat) (mem ss:Mem β),(ycb I hard is m mem r ss).1.length=mem.length
 |[],mem,ss=>by cases ss<;>rfl
 |i::r,mem,[]=>rfl
 |i::r,mem,s::ss=>by
  simp only [ycb]
  split
  ·split
   ·rw [yda r];simp
   ·split
    ·exact yda r mem ss
    ·exact yda r mem ss
  ·exact yda r mem ss
theorem ycu {is:List Nat} {m i:Nat}:∀ (r:List Nat) (mem ss:Mem β),i ∉ r→(ycb I hard is m mem r ss).1[i]? =mem[i]?
 |[],mem,ss,_=>by cases ss<;>rfl
 |j::r,mem,[],_=>rfl
 |j::r,mem,s::ss,h=>by
  have hr:i ∉ r:=fun hm=>h (zak _ hm)
  have hj:j≠i:=fun e=>h (by rw [e];exact zal ..)
  simp only [ycb]
  split
  ·split
   ·rw [ycu r _ ss hr,zao hj]
   ·split
    ·exact ycu r mem ss hr
    ·exact ycu r mem ss hr
  ·exact ycu r mem ss hr
theorem yfu {is:List Nat} {m:Nat}:∀ (r:List Nat) (mem ss:Mem β) (j i:Nat) (s en:En β),(∀ a b c:Nat,r[a]? =some c→r[b]? =some c→a=b)→r[j]? =some i→ss[j]? =some s→mem[i]? =some en→(∀ p∈(ycb I hard is m mem r ss).2,p)→
  (ych hard en=true→(ycb I hard is m mem r ss).1[i]? =some (asBx en (ygu I is m s).1)∧∀ p∈(ygu I is m s).2,p)∧(ych hard en=false→(ycb I hard is m mem r ss).1[i]? =some en∧(givB hard en=true→s=en))
 |[],mem,ss,j,i,s,en,_,h,_,_,_=>by simp at h
 |i0::r,mem,[],j,i,s,en,_,_,h,_,_=>by simp at h
 |i0::r,mem,s0::ss,j,i,s,en,hn,hi,hs,hen,hp=>by
  have hn':∀ a b c:Nat,r[a]? =some c→r[b]? =some c→a=b:=fun a b c ha hb=>by
   have:=hn (a+1) (b+1) c (by simpa using ha) (by simpa using hb)
   omega
  have hi0:i0 ∉ r:=fun hm=>by
   obtain ⟨a,ha,hae⟩:=zaz hm
   have:=hn 0 (a+1) i0 rfl (by simpa [ha] using hae)
   omega
  cases j with
  |zero=>
   simp at hi hs
   subst hi;subst hs
   simp only [ycb,hen] at hp ⊢
   cases hsb:ych hard en with
   |true=>
    simp only [hsb] at hp ⊢
    refine ⟨fun _=>⟨?_,fun p hq=>hp p (zah _ hq)⟩,fun h=>by cases h⟩
    rw [ycu r _ ss hi0,List.getElem?_set_self (zab.1 hen).1]
   |false=>
    simp only [hsb] at hp ⊢
    refine ⟨(fun h=>by cases h),fun _=>?_⟩
    cases hgb:givB hard en with
    |true=>
     simp only [hgb] at hp ⊢
     exact ⟨by rw [ycu r mem ss hi0];exact hen,fun _=>hp _ (zal ..)⟩
    |false=>
     simp only [hgb] at hp ⊢
     exact ⟨by rw [ycu r mem ss hi0];exact hen,fun h=>by cases h⟩
  |succ j=>
   have hi':r[j]? =some i:=by simpa using hi
   have hs':ss[j]? =some s:=by simpa using hs
   have hne:i0≠i:=fun e=>hi0 (by rw [e];exact zaj hi')
   cases hm:mem[i0]? with
   |none=>
    simp only [ycb,hm] at hp ⊢
    exact yfu r mem ss j i s en hn' hi' hs' hen hp
   |some en0=>
    cases hsb:ych hard en0 with
    |true=>
     simp only [ycb,hm,hsb] at hp ⊢
     exact yfu r _ ss j i s en hn' hi' hs' (by rw [zao hne];exact hen) fun p hq=>hp p (zag _ hq)
    |false=>
     cases hgb:givB hard en0 with
     |true=>
      simp only [ycb,hm,hsb,hgb] at hp ⊢
      exact yfu r mem ss j i s en hn' hi' hs' hen fun p hq=>hp p (zak _ hq)
     |false=>
      simp only [ycb,hm,hsb,hgb] at hp ⊢
      exact yfu r mem ss j i s en hn' hi' hs' hen hp
theorem givB_soft {en:En β} (h:ych hard en=true):givB hard en=true:=by
 simp only [ych,givB,zbs,zbt] at h ⊢
 exact ⟨h.1,.inl h.2⟩
theorem givB_us {en:En β} (hs:ych hard en=false) (h:givB hard en=true):∃ b,en=⟨.us b,true⟩:=by
 obtain ⟨ob,mu⟩:=en
 simp only [ych,givB] at hs h
 rw [zbs,zbt] at h
 obtain ⟨h1,h2⟩:=h
 have h1:mu=true:=h1
 subst h1
 rcases h2 with h2|h2
 ·rw [h2] at hs;cases hs
 ·cases ob with
  |us b=>exact ⟨b,rfl⟩
  |_=>cases h2
theorem yh5 {is:List Nat} {m:Nat}:∀ (ss:Mem β),(∀ p∈(yen I is m ss).2,p)→(yen I is m ss).1.length=ss.length∧∀ (j:Nat) (n:En β),(yen I is m ss).1[j]? =some n→∃ s,ss[j]? =some s∧n=(ygu I is m s).1∧∀ p∈(ygu I is m s).2,p
 |[],_=>⟨rfl,fun j n h=>by simp [yen] at h⟩
 |s::ss,hp=>by
  simp only [yen] at hp ⊢
  obtain ⟨g1,g2⟩:=yh5 ss fun p hq=>hp p (zag _ hq)
  refine ⟨by simp [g1],fun j n hn=>?_⟩
  cases j with
  |zero=>simp at hn;subst hn;exact ⟨s,rfl,rfl,fun p hq=>hp p (zah _ hq)⟩
  |succ j=>simpa using g2 j n (by simpa using hn)
theorem frameG (hM:MemOk W0 G I w E MEM) {is:List Nat} (hn:∀ a b c:Nat,is[a]? =some c→is[b]? =some c→a=b) (hb:∀ i∈is,i<MEM.length) {sub:Mem β} {ps:List Prop} (hs:dnMG hard is MEM is=some (sub,ps)) (hp:∀ p∈ps,p)
  (hl:e.length=is.length) (he:∀ j i:Nat,is[j]? =some i→e[j]? =E[i]?) (h':MemOk w (ybc I w e sub) I w' e' ms) (hg:Grows e e') (hk:is.length≤ms.length)
  (hp1:∀ p∈(ycb I hard is MEM.length MEM is ms).2,p) (hp2:∀ p∈(yen I is MEM.length (ms.drop is.length)).2,p) (hall:∀ i∈is,∀ en,MEM[i]? =some en→en.mu=true→givB hard en=true):
  MemOk W0 G I w' (E++e'.drop is.length) ((ycb I hard is MEM.length MEM is ms).1++(yen I is MEM.length (ms.drop is.length)).1)∧∀ (j:Nat) (x:Value),e'[j]? =some x→(E++e'.drop is.length)[renN is MEM.length j]? =some x:=by
 have hle':e'.length=ms.length:=h'.len
 have hEl:E.length=MEM.length:=hM.len
 obtain ⟨g1,g2⟩:=yn4 hs hp
 have hren:∀ (j:Nat) (x:Value),e'[j]? =some x→(E++e'.drop is.length)[renN is MEM.length j]? =some x:=fun j u hj=>by
  unfold renN
  cases hji:is[j]? with
  |some i=>
   simp only
   have hlt:i<E.length:=by rw [hEl];exact hb i (zaj hji)
   rw [zad hlt]
   have h1:=he j i hji
   rw [zaa hlt] at h1 ⊢
   have:=hg j _ h1
   rw [hj] at this
   exact this.symm
  |none=>
   simp only
   have hge:is.length≤j:=by
    rcases zbk j is.length with h|h
    ·rw [zaa h] at hji;cases hji
    ·exact h
   rw [← hEl,zac (by omega),zap,show is.length+(E.length+(j - is.length) - E.length)=j by omega]
   exact hj
 refine ⟨?_,hren⟩
 have hFM:∀ k,OwnOf I w e sub k→∃ (i:Nat) (u:Value) (n:En β),i∈is∧E[i]? =some u∧MEM[i]? =some n∧givB hard n=true∧Own I w u n.ob k:=fun k ⟨j,u,n,hu,hn',hmu',hf⟩=>by
  have hj:j<is.length:=by rw [← g1];exact (zab.1 hn').1
  have hi:=zaa hj
  obtain ⟨en,qs,h1,h2,h3⟩:=g2 j _ n hi hn'
  have hE:E[is[j]]? =some u:=by rw [← he j _ hi];exact hu
  obtain ⟨_,_,q3,q4⟩:=yn5 he h2 h3 (hM.holds _ u en hE h1)
  exact ⟨_,u,en,List.getElem_mem hj,hE,h1,q4 hmu',q3 k hf⟩
 have hmd:Mod (OwnOf I w e sub) w w':=h'.mod.mono fun k _ hk=>footE.1 hk
 have soft:∀ n:En β,givB hard n=true→n.mu=true:=fun n h=>by
  simp only [givB,zbs] at h;exact h.1
 have hdis:∀ (i:Nat) (u:Value) (n:En β),(i ∉ is∨givB hard n=false)→E[i]? =some u→MEM[i]? =some n→∀ k,Foot I w u n.ob k→¬ OwnOf I w e sub k:=fun i u n hi hu hn' k hk hF=>by
  obtain ⟨i2,u2,n2,h2,q1,q2,q3,q4⟩:=hFM k hF
  refine hM.sep i2 i u2 u n2 n q1 q2 (soft _ q3) hu hn' (fun e=>?_) k q4 hk
  subst e
  rcases hi with hi|hi
  ·exact hi h2
  ·rw [hn'] at q2;cases q2;rw [hi] at q3;cases q3
 -- an entry that is not turned
 have hout:∀ (i:Nat) (u:Value) (n:En β),(i ∉ is∨givB hard n=false)→E[i]? =some u→MEM[i]? =some n→Holds I E w' u n.mu n.ob∧∀ k,Foot I w' u n.ob k→Foot I w u n.ob k:=fun i u n hi hu hn'=>
  (hM.holds i u n hu hn').stay hmd (hdis i u n hi hu hn')
 have houtO:∀ (i:Nat) (u:Value) (n:En β),(i ∉ is∨givB hard n=false)→E[i]? =some u→MEM[i]? =some n→∀ k,Own I w' u n.ob k→Own I w u n.ob k:=fun i u n hi hu hn'=>
  (hM.holds i u n hu hn').stayO hmd (hdis i u n hi hu hn')
 -- what is there behind the call
 have hget:∀ (i:Nat) (u:Value) (n:En β),(E++e'.drop is.length)[i]? =some u→((ycb I hard is MEM.length MEM is ms).1++(yen I is MEM.length (ms.drop is.length)).1)[i]? =some n→
   (i<MEM.length∧E[i]? =some u∧MEM[i]? =some n∧(i ∉ is∨givB hard n=false))∨∃ j s en0,e'[j]? =some u∧ms[j]? =some s∧n=asBx en0 (ygu I is MEM.length s).1∧(∀ p∈(ygu I is MEM.length s).2,p)∧((is[j]? =some i∧i<MEM.length∧∃ en,MEM[i]? =some en∧E[i]? =some u∧givB hard en=true)∨(is.length≤j∧i=MEM.length+(j - is.length))):=fun i u n hu hn'=>by
  have hsl:=yda (I:=I) (hard:=hard) (is:=is) (m:=MEM.length) is MEM ms
  rcases zbk i MEM.length with hi|hi
  ·rw [zad (by omega)] at hu
   rw [zad (by omega)] at hn'
   by_cases him:i∈is
   ·obtain ⟨j,hj,hje⟩:=zaz him
    have hji:is[j]? =some i:=by rw [zaa hj,hje]
    have hjm:j<ms.length:=by omega
    obtain ⟨a1,a2⟩:=yfu is MEM ms j i _ _ hn hji (zaa hjm) (zaa hi) hp1
    cases hsb:ych hard MEM[i] with
    |true=>
     obtain ⟨b1,b2⟩:=a1 hsb
     rw [b1] at hn'
     simp only [Option.some.injEq] at hn'
     exact .inr ⟨j,_,_,hg j u (by rw [he j i hji];exact hu),zaa hjm,hn'.symm,b2,.inl ⟨hji,hi,_,zaa hi,hu,givB_soft hsb⟩⟩
    |false=>
     obtain ⟨b1,b2⟩:=a2 hsb
     rw [b1] at hn'
     simp only [Option.some.injEq] at hn'
     cases hgb:givB hard MEM[i] with
     |true=>
      obtain ⟨b,hb2⟩:=givB_us hsb hgb
      have hsm:=b2 hgb
      refine .inr ⟨j,ms[j],⟨.dead,true⟩,hg j u (by rw [he j i hji];exact hu),zaa hjm,?_,?_,.inl ⟨hji,hi,_,zaa hi,hu,hgb⟩⟩
      ·rw [← hn',hsm,hb2];rfl
      ·rw [hsm,hb2];intro p hp;cases hp
     |false=>
      subst hn'
      exact .inl ⟨hi,hu,zaa hi,.inr hgb⟩
   ·rw [ycu is MEM ms him] at hn'
    exact .inl ⟨hi,hu,hn',.inl him⟩
  ·rw [zac (by omega),zap] at hu
   rw [zac (by omega),hsl] at hn'
   rw [hEl] at hu
   obtain ⟨s,h1,h2,h3⟩:=(yh5 _ hp2).2 _ n hn'
   rw [zap] at h1
   exact .inr ⟨is.length+(i - MEM.length),s,⟨.dead,true⟩,hu,h1,h2,h3,.inr ⟨by omega,by omega⟩⟩
 -- what the callee left
 have hinO:∀ (j:Nat) (u:Value) (s:En β),e'[j]? =some u→ms[j]? =some s→s.mu=true→∀ k,Own I w' u s.ob k→w.heap.size≤k∨∃ (i:Nat) (u2:Value) (n2:En β),i∈is∧E[i]? =some u2∧MEM[i]? =some n2∧givB hard n2=true∧Own I w u2 n2.ob k:=fun j u s hu hs' hmu k hk=>by
  rcases h'.own j u s hu hs' hmu k hk with h1|h1
  ·exact .inl h1
  ·exact .inr (hFM k (footE.1 h1))
 have hread:∀ (j:Nat) (u:Value) (s:En β),e'[j]? =some u→ms[j]? =some s→∀ k,Foot I w' u s.ob k→w.heap.size≤k∨∃ (i:Nat) (u2:Value) (n2:En β),i∈is∧E[i]? =some u2∧MEM[i]? =some n2∧Foot I w u2 n2.ob k:=fun j u s hu hs' k hk=>by
  rcases h'.rd j u s hu hs' k hk with h1|h1
  ·exact .inl h1
  ·obtain ⟨j3,u3,n3,hu3,hn3,hf3⟩:=footO.1 h1
   have hj:j3<is.length:=by rw [← g1];exact (zab.1 hn3).1
   have hi:=zaa hj
   obtain ⟨en,qs,a1,a2,a3⟩:=g2 j3 _ n3 hi hn3
   have hE:E[is[j3]]? =some u3:=by rw [← he j3 _ hi];exact hu3
   exact .inr ⟨_,u3,en,List.getElem_mem hj,hE,a1,(yn5 he a2 a3 (hM.holds _ u3 en hE a1)).2.1 k hf3⟩
 have hnew:=(yh5 _ hp2).1
 refine ⟨?_,fun i u n hu hn'=>?_,fun i u n hu hn' k hk=>?_,fun i u n hu hn' hmv k hk=>?_,fun i1 i2 u1 u2 n1 n2 hu1 hn1 hmv hu2 hn2 hij k hk1 hk2=>?_,?_,fun i u n hu hn' k hk=>?_⟩
 ·rw [zae,zae,yda,hnew,hEl,zav,zav,hle']
 ·rcases hget i u n hu hn' with ⟨_,h1,h2,h3⟩|⟨j,s,en0,h1,h2,rfl,h4,_⟩
  ·exact ((hout i u n h3 h1 h2).1).mono fun a x hx=>by rw [zad (zab.1 hx).1];exact hx
  ·exact asBx_is (ye5 hren h4 (h'.holds j u s h1 h2)).1
 ·rcases hget i u n hu hn' with ⟨_,h1,h2,h3⟩|⟨j,s,en0,h1,h2,rfl,h4,_⟩
  ·exact Nat.lt_of_lt_of_le (hM.lt i u n h1 h2 k ((hout i u n h3 h1 h2).2 k hk)) h'.mod.size
  ·exact h'.lt j u s h1 h2 k ((ye5 hren h4 (h'.holds j u s h1 h2)).2.1 k (asBx_foot.1 hk))
 ·rcases hget i u n hu hn' with ⟨_,h1,h2,h3⟩|⟨j,s,en0,h1,h2,rfl,h4,_⟩
  ·exact hM.own i u n h1 h2 hmv k (houtO i u n h3 h1 h2 k hk)
  ·rw [asBx_mu] at hmv
   obtain ⟨q1,q2⟩:=(ye5 hren h4 (h'.holds j u s h1 h2)).2.2 hmv k (asBx_own.1 hk)
   rcases hinO j u s h1 h2 q1 k q2 with h3|⟨i2,u2,n2,_,f1,f2,f3,f4⟩
   ·exact .inl (zbl hM.mod.size h3)
   ·exact hM.own i2 u2 n2 f1 f2 (soft _ f3) k f4
 ·rcases hget i1 u1 n1 hu1 hn1 with ⟨_,h1,h2,h3⟩|⟨j1,s1,en1,h1,h2,rfl,h4,hp1'⟩
  ·have q1:=houtO i1 u1 n1 h3 h1 h2 k hk1
   rcases hget i2 u2 n2 hu2 hn2 with ⟨_,f1,f2,f3⟩|⟨j2,s2,en2,f1,f2,rfl,f4,_⟩
   ·exact hM.sep i1 i2 u1 u2 n1 n2 h1 h2 hmv f1 f2 hij k q1 ((hout i2 u2 n2 f3 f1 f2).2 k hk2)
   ·have r2:=(ye5 hren f4 (h'.holds j2 u2 s2 f1 f2)).2.1 k (asBx_foot.1 hk2)
    rcases hread j2 u2 s2 f1 f2 k r2 with h5|⟨i3,u3,n3,h5,d1,d2,d4⟩
    ·have:=hM.lt i1 u1 n1 h1 h2 k q1.foot;omega
    ·refine hM.sep i1 i3 u1 u3 n1 n3 h1 h2 hmv d1 d2 (fun e=>?_) k q1 d4
     subst e
     rcases h3 with h3|h3
     ·exact h3 h5
     ·have:=hall _ h5 _ h2 hmv
      rw [h3] at this;cases this
  ·rw [asBx_mu] at hmv
   obtain ⟨r1,r2⟩:=(ye5 hren h4 (h'.holds j1 u1 s1 h1 h2)).2.2 hmv k (asBx_own.1 hk1)
   rcases hget i2 u2 n2 hu2 hn2 with ⟨_,f1,f2,f3⟩|⟨j2,s2,en2,f1,f2,rfl,f4,hp2'⟩
   ·have q2:=(hout i2 u2 n2 f3 f1 f2).2 k hk2
    rcases hinO j1 u1 s1 h1 h2 r1 k r2 with h5|⟨i3,u3,n3,h5,d1,d2,d3,d4⟩
    ·have:=hM.lt i2 u2 n2 f1 f2 k q2;omega
    ·refine hM.sep i3 i2 u3 u2 n3 n2 d1 d2 (soft _ d3) f1 f2 (fun e=>?_) k d4 q2
     subst e
     rcases f3 with f3|f3
     ·exact f3 h5
     ·rw [f2] at d2;cases d2;rw [f3] at d3;cases d3
   ·have z2:=(ye5 hren f4 (h'.holds j2 u2 s2 f1 f2)).2.1 k (asBx_foot.1 hk2)
    refine h'.sep j1 j2 u1 u2 s1 s2 h1 h2 r1 f1 f2 (fun e=>hij ?_) k r2 z2
    subst e
    rcases hp1' with ⟨a1,a2,_⟩|⟨a1,a2⟩
    ·rcases hp2' with ⟨b1,b2,_⟩|⟨b1,b2⟩
     ·rw [a1] at b1;cases b1;rfl
     ·have:=(zab.1 a1).1;omega
    ·rcases hp2' with ⟨b1,b2,_⟩|⟨b1,b2⟩
     ·have:=(zab.1 b1).1;omega
     ·omega
 ·refine Mod.trans hM.mod hmd fun k hF hl0=>?_
  obtain ⟨i,u,n,_,q1,q2,q3,q4⟩:=hFM k hF
  rcases hM.own i u n q1 q2 (soft _ q3) k q4 with h|h
  ·omega
  ·exact h
 ·rcases hget i u n hu hn' with ⟨_,h1,h2,h3⟩|⟨j,s,en0,h1,h2,rfl,h4,_⟩
  ·exact hM.rd i u n h1 h2 k ((hout i u n h3 h1 h2).2 k hk)
  ·have q2:=(ye5 hren h4 (h'.holds j u s h1 h2)).2.1 k (asBx_foot.1 hk)
   rcases hread j u s h1 h2 k q2 with h3|⟨i2,u2,n2,_,f1,f2,f4⟩
   ·exact .inl (zbl hM.mod.size h3)
   ·exact hM.rd i2 u2 n2 f1 f2 k f4
def cvP:PV→PV
 |.kI k n=>.v (.int k n)
 |.kB b=>.v (.bool b)
 |.kS s=>.v (.string s)
 |p=>p
theorem cvP_is {e:Env} {p:PV} {u:Value}:(cvP p).is e u↔p.is e u:=by cases p<;>exact Iff.rfl
def cvC:CV→CV
 |.one p=>.one (cvP p)
 |.agg cs=>.agg (cs.map cvP)
 |.fn f cs=>.fn f (cs.map cvP)
def cvCs:List CV→List CV
 |[]=>[]
 |c::r=>cvC c::cvCs r
theorem ysu {e:Env}:∀ {ps:List PV} {us:List Value},AllIs e ps us→AllIs e (ps.map cvP) us
 |[],[],h=>h
 |_::_,_::_,⟨h1,h2⟩=>⟨cvP_is.2 h1,ysu h2⟩
 |[],_::_,h=>h.elim
 |_::_,[],h=>h.elim
theorem ysv {e:Env}:∀ {cs:List CV} {us:List Value},AllC e cs us→AllC e (cvCs cs) us
 |[],[],h=>h
 |c::_,_::_,⟨h1,h2⟩=>⟨by
   cases c with
   |one p=>exact cvP_is.2 h1
   |agg ps=>obtain ⟨us,h3,rfl⟩:=h1;exact ⟨us,ysu h3,rfl⟩
   |fn f ps=>obtain ⟨us,h3,rfl⟩:=h1;exact ⟨us,ysu h3,rfl⟩,ysv h2⟩
 |[],_::_,h=>h.elim
 |_::_,[],h=>h.elim
def canE (en:En β):En β:=match en.ob with
 |.blk cs=>⟨.blk (cs.map cvP),en.mu⟩
 |.bx cs=>⟨.bx (cs.map cvP),en.mu⟩
 |_=>en
def canM:Mem β→Mem β
 |[]=>[]
 |en::r=>canE en::canM r
theorem yum:∀ m:Mem β,(canM m).length=m.length
 |[]=>rfl
 |en::r=>by simp [canM,yum r]
theorem yjn:∀ (m:Mem β) (i:Nat),(canM m)[i]? =m[i]?.map canE
 |[],i=>by simp [canM]
 |en::r,0=>by simp [canM]
 |en::r,i+1=>by simp only [canM,List.getElem?_cons_succ];exact yjn r i
theorem yoc (en:En β):(canE en).mu=en.mu:=by obtain ⟨ob,mu⟩:=en;cases ob<;>rfl
theorem canE_foot {en:En β} {w:World} {u:Value} {k:Nat}:Foot I w u (canE en).ob k↔Foot I w u en.ob k:=by obtain ⟨ob,mu⟩:=en;cases ob<;>exact Iff.rfl
theorem canE_own {en:En β} {w:World} {u:Value} {k:Nat}:Own I w u (canE en).ob k↔Own I w u en.ob k:=by obtain ⟨ob,mu⟩:=en;cases ob<;>exact Iff.rfl
theorem can_blk {cs:List PV} {mu:Bool} {u:Value} (h:Holds I e w u mu (.blk cs)):Holds I e w u mu (.blk (cs.map cvP)):=by
 obtain ⟨b,o,rfl,hc⟩:=h
 refine ⟨b,o,rfl,fun j q hq=>?_⟩
 rw [zan] at hq
 cases hcj:cs[j]? with
 |none=>rw [hcj] at hq;cases hq
 |some p=>
  rw [hcj] at hq
  simp only [Option.map_some,Option.some.injEq] at hq
  subst hq
  obtain ⟨x,g1,g2,g3⟩:=hc j p hcj
  exact ⟨x,g1,cvP_is.2 g2,g3⟩
theorem ywr {en:En β} {u:Value} (h:Holds I e w u en.mu en.ob):Holds I e w u (canE en).mu (canE en).ob:=by
 obtain ⟨ob,mu⟩:=en
 cases ob with
 |blk cs=>exact can_blk h
 |bx cs=>exact can_blk (I:=I) h
 |_=>exact h
theorem yee {i:Nat} {n:En β} (h:(canM mem)[i]? =some n):∃ en,mem[i]? =some en∧n=canE en:=by
 rw [yjn] at h
 cases hm:mem[i]? with
 |none=>rw [hm] at h;cases h
 |some en=>rw [hm] at h;simp only [Option.map_some,Option.some.injEq] at h;exact ⟨en,rfl,h.symm⟩
theorem MemOk.can (h:MemOk W0 G I w e mem):MemOk W0 G I w e (canM mem):=by
 refine ⟨by rw [yum];exact h.len,fun i u n hu hn=>?_,fun i u n hu hn k hk=>?_,fun i u n hu hn hmu k hk=>?_,fun i j u v n m hu hn hmu hv hm hij k hk1 hk2=>?_,h.mod,fun i u n hu hn k hk=>?_⟩
 ·obtain ⟨en,h1,rfl⟩:=yee hn
  exact ywr (h.holds i u en hu h1)
 ·obtain ⟨en,h1,rfl⟩:=yee hn
  exact h.lt i u en hu h1 k (canE_foot.1 hk)
 ·obtain ⟨en,h1,rfl⟩:=yee hn
  rw [yoc] at hmu
  exact h.own i u en hu h1 hmu k (canE_own.1 hk)
 ·obtain ⟨en,h1,rfl⟩:=yee hn
  obtain ⟨em,h2,rfl⟩:=yee hm
  rw [yoc] at hmu
  exact h.sep i j u v en em hu h1 hmu hv h2 hij k (canE_own.1 hk1) (canE_foot.1 hk2)
 ·obtain ⟨en,h1,rfl⟩:=yee hn
  exact h.rd i u en hu h1 k (canE_foot.1 hk)
theorem yij:ybc I w e (canM mem)=ybc I w e mem:=by
 have ho:∀ k,OwnOf I w e (canM mem) k↔OwnOf I w e mem k:=fun k=>by
  constructor
  ·rintro ⟨i,u,n,hu,hn,hmu,hk⟩
   obtain ⟨en,h1,rfl⟩:=yee hn
   exact ⟨i,u,en,hu,h1,by rw [yoc] at hmu;exact hmu,canE_own.1 hk⟩
  ·rintro ⟨i,u,n,hu,hn,hmu,hk⟩
   exact ⟨i,u,canE n,hu,by rw [yjn,hn];rfl,by rw [yoc];exact hmu,canE_own.2 hk⟩
 have hr:∀ k,ReadOf I w e (canM mem) k↔ReadOf I w e mem k:=fun k=>by
  constructor
  ·rintro ⟨i,u,n,hu,hn,hk⟩
   obtain ⟨en,h1,rfl⟩:=yee hn
   exact ⟨i,u,en,hu,h1,canE_foot.1 hk⟩
  ·rintro ⟨i,u,n,hu,hn,hk⟩
   exact ⟨i,u,canE n,hu,by rw [yjn,hn];rfl,canE_foot.2 hk⟩
 funext k
 unfold ybc
 rw [propext (ho _),propext (hr _)]
abbrev Ctr (β:Type):=List CV→Mem β→Option (List Prop×SV×Mem β)
def ctrO (I:ObI β) (hard:β→Bool) (mem:Mem β) (is:List Nat) (qs:List Prop) (r:Option (List Prop×SV×Mem β)):Option (List Prop×SV×Option (Mem β)):=match r with
 |some (ps,x,sm)=>(match leb is.length sm.length&&yl4 x with
  |true=>some (qs++(ps++((ycb I hard is mem.length mem is sm).2++(yen I is mem.length (sm.drop is.length)).2)),renS is mem.length x,some ((ycb I hard is mem.length mem is sm).1++(yen I is mem.length (sm.drop is.length)).1))
  |false=>none)
 |none=>none
def okIs (hard:β→Bool) (mem:Mem β):List Nat→Bool
 |[]=>true
 |i::r=>(match mem[i]? with|some en=>!en.mu||givB hard en|none=>false)&&okIs hard mem r
theorem ytv:∀ {is:List Nat},okIs hard MEM is=true→∀ i∈is,∀ en,MEM[i]? =some en→en.mu=true→givB hard en=true
 |[],_,i,hi,_,_,_=>by cases hi
 |j::r,h,i,hi,en,hen,hmu=>by
  simp only [okIs,zbs] at h
  rcases List.mem_cons.1 hi with rfl|hi
  ·have h1:=h.1
   rw [hen] at h1
   simp only [zbt,Bool.not_eq_true'] at h1
   rcases h1 with h1|h1
   ·rw [hmu] at h1;cases h1
   ·exact h1
  ·exact ytv h.2 i hi en hen hmu
def ctrF (I:ObI β) (spec:Ctr β) (hard:β→Bool):Fn2 β:=fun us mem=>ymf (cloH mem mem.length 0 (hsCs us [])) fun is=>
 match (yhv is&&ltB mem.length is)&&okIs hard mem is,mapO (dnC is) us,dnMG hard is mem is with
 |true,some us0,some (sub,qs)=>ctrO I hard mem is qs (spec (cvCs us0) (canM sub))
 |_,_,_=>none
def CtrOk (P:Program) (I:ObI β) (f:FuncId) (spec:Ctr β):Prop:=∀ us sub ps x sm,spec us sub=some (ps,x,sm)→(∀ p∈ps,p)→∀ w e vs,MemOk w (ybc I w e sub) I w e sub→AllC e us vs→
 Calls P f vs.toArray w (fun y w'=>∃ v e',y=.returned v∧Grows e e'∧x.is e' v∧MemOk w (ybc I w e sub) I w' e' sm)
theorem ydi {f:FuncId} {spec:Ctr β} (he:∀ us w,(callFunc f us).run P w=.ok (.enter f us) w) (hspec:CtrOk P I f spec):RowOk P I hard f (ctrF I spec hard):=by
 have key:∀ us mem ps r mo,ctrF I spec hard us mem=some (ps,r,mo)→∃ is us0 sub qs pps x sm,(yhv is&&ltB mem.length is)=true∧okIs hard mem is=true∧mapO (dnC is) us=some us0∧dnMG hard is mem is=some (sub,qs)∧
   spec (cvCs us0) (canM sub)=some (pps,x,sm)∧leb is.length sm.length=true∧yl4 x=true∧ps=qs++(pps++((ycb I hard is mem.length mem is sm).2++(yen I is mem.length (sm.drop is.length)).2))∧r=renS is mem.length x∧
   mo=some ((ycb I hard is mem.length mem is sm).1++(yen I is mem.length (sm.drop is.length)).1):=fun us mem ps r mo h=>by
  unfold ctrF at h
  rw [yez] at h
  split at h
  ·rename_i us0 sub qs hB h1 h2
   rw [zbs] at hB
   unfold ctrO at h
   split at h
   ·rename_i pps x sm hr
    split at h
    ·rename_i hx
     rw [zbs] at hx
     simp only [Option.some.injEq,Prod.mk.injEq] at h
     obtain ⟨rfl,rfl,rfl⟩:=h
     exact ⟨_,us0,sub,qs,pps,x,sm,hB.1,hB.2,h1,h2,hr,hx.1,hx.2,rfl,rfl,rfl⟩
    ·cases h
   ·cases h
  ·cases h
 refine ⟨he,fun W0 G args mem ps r mo hr hp w E us hM ha=>?_,fun args m m' ps r hr=>?_,fun args mem ps r m' hr=>?_⟩
 ·obtain ⟨is,us0,sub,qs,pps,x,sm,hB,hall,h1,h2,h3,h4,h5,rfl,rfl,rfl⟩:=key args mem ps r mo hr
  rw [zbs] at hB
  have hn:=ycx hB.1
  have hb':=yki hB.2
  let e:Env:=is.map fun i=>E.getD i undef
  have hel:e.length=is.length:=by simp [e]
  have hee:∀ j i:Nat,is[j]? =some i→e[j]? =E[i]? :=fun j i hj=>by
   have hlt:i<E.length:=by rw [hM.len];exact hb' i (zaj hj)
   simp only [e,zan,hj,Option.map_some,List.getD_eq_getElem?_getD]
   rw [zaa hlt];rfl
  have q1:∀ p∈qs,p:=fun p h=>hp p (zah _ h)
  have q2:∀ p∈pps,p:=fun p h=>hp p (zag _ (zah _ h))
  have q3:=fun p h=>hp p (zag _ (zag _ (zah _ h)))
  have q4:=fun p h=>hp p (zag _ (zag _ (zag _ h)))
  have hsub:=subG_ok hM hn h2 q1 hel hee
  refine (hspec _ _ pps x sm h3 q2 w e us (by rw [yij];exact hsub.can) (ysv (yn6 hee h1 ha))).mono fun y w' ⟨v,e',hy,hg,hx,hM'⟩=>?_
  rw [yij] at hM'
  obtain ⟨f1,f2⟩:=frameG hM hn hb' h2 q1 hel hee hM' hg (leb_le.1 h4) q3 q4 (ytv hall)
  exact ⟨v,hy,E++e'.drop is.length,fun i u hu=>by rw [zad (zab.1 hu).1];exact hu,yrq f2 h5 hx,f1⟩
 ·obtain ⟨is,us0,sub,qs,pps,x,s,_,_,_,_,_,_,_,_,_,h⟩:=key args m ps r none hr
  cases h
 ·obtain ⟨is,us0,sub,qs,pps,x,sm,hB,hlen,h1,h2,h3,h4,h5,_,_,hm⟩:=key args mem ps r (some m') hr
  simp only [Option.some.injEq] at hm
  subst hm
  rw [zbs] at hB
  have hn:=ycx hB.1
  intro i en hi hsol
  have hlt:i<mem.length:=(zab.1 hi).1
  rw [zad (by rw [yda];exact hlt)]
  have hns:ych hard en=false:=by simp [ych,hsol]
  have gen:∀ (r:List Nat) (mm ss:Mem β),mm[i]? =some en→(ycb I hard is mem.length mm r ss).1[i]? =some en:=by
   intro r
   induction r with
   |nil=>intro mm ss h;cases ss<;>exact h
   |cons j r ih=>
    intro mm ss h
    cases ss with
    |nil=>exact h
    |cons s0 ss=>
     simp only [ycb]
     split
     ·rename_i en0 hen0
      split
      ·rename_i hsb
       refine ih _ _ ?_
       have hne:j≠i:=fun e=>by subst e;rw [h] at hen0;cases hen0;rw [hns] at hsb;cases hsb
       rw [zao hne];exact h
      ·split
       ·exact ih _ _ h
       ·exact ih _ _ h
     ·exact ih _ _ h
  exact gen is mem sm hi
end
end Go.Proofs.Ytiiekgcjilelpaa
