/- E4. -/
import Derived.Test.YtiiekgcjilelpaaE3p
import Derived.Laws.StructEq
open List renaming getElem?_eq_getElem → zaa, getElem?_eq_some_iff → zab, getElem?_append_right → zac, getElem?_append_left → zad, mem_of_getElem? → zaj, getElem?_map → zan, getElem?_drop → zap, getElem_of_mem → zaz
open Nat renaming lt_or_ge → zbk, le_trans → zbl
open Bool renaming and_eq_true → zbs, or_eq_true → zbt
set_option linter.unusedSimpArgs false
set_option linter.unusedVariables false
namespace Go.Proofs.Ytiiekgcjilelpaa
open Go.RowKit
section
variable {β:Type} {S:Sy β} {I:ObI β} {W0:World} {G:Nat→Prop} {P:Program} {w w':World} {E e e':Env} {MEM mem ms:Mem β}
def yll (I:ObI β) (n:En β):Prop:=∀ (e e':Env) (w:World) (u:Value),Holds I e w u n.mu n.ob→Holds I e' w u n.mu n.ob
theorem yf1 {n:En β} (h:isUs n=true):yll I n:=fun e e' w u hh=>by
 obtain ⟨ob,mu⟩:=n
 cases ob with
 |us b=>exact hh
 |blk c=>simp [isUs] at h
 |bx c=>simp [isUs] at h
 |sl K b=>simp [isUs] at h
 |dead=>simp [isUs] at h
def dEn:En β:=⟨.dead,false⟩
def subM (MEM:Mem β) (is:List Nat):Mem β:=is.map fun i=>match MEM[i]? with|some n=>n|none=>dEn
def setL:Mem β→List Nat→Mem β→Mem β
 |m,i::is,x::xs=>setL (m.set i x) is xs
 |m,_,_=>m
theorem yjd:∀ (is:List Nat) (m xs:Mem β),(setL m is xs).length=m.length
 |[],m,xs=>by cases xs<;>rfl
 |i::is,m,[]=>rfl
 |i::is,m,x::xs=>by simp only [setL];rw [yjd is];simp
theorem yjc {i:Nat}:∀ (is:List Nat) (m xs:Mem β),i ∉ is→(setL m is xs)[i]? =m[i]?
 |[],m,xs,_=>by cases xs<;>rfl
 |j::is,m,[],_=>rfl
 |j::is,m,x::xs,h=>by
  simp only [setL]
  rw [yjc is _ _ (fun hm=>h (List.mem_cons_of_mem _ hm)),List.getElem?_set_ne (fun e=>h (by rw [e];exact List.mem_cons_self ..))]
theorem yrm:∀ (is:List Nat) (m xs:Mem β) (j i:Nat) (x:En β),(∀ a b c:Nat,is[a]? =some c→is[b]? =some c→a=b)→is[j]? =some i→xs[j]? =some x→i<m.length→(setL m is xs)[i]? =some x
 |[],m,xs,j,i,x,_,h,_,_=>by simp at h
 |i0::is,m,[],j,i,x,_,_,h,_=>by simp at h
 |i0::is,m,x0::xs,j,i,x,hn,hi,hx,hl=>by
  simp only [setL]
  cases j with
  |zero=>
   simp at hi hx
   subst hi;subst hx
   have:i0 ∉ is:=fun hm=>by
    obtain ⟨a,ha,hae⟩:=zaz hm
    have:=hn 0 (a+1) i0 rfl (by simpa [ha] using hae)
    omega
   rw [yjc is _ _ this,List.getElem?_set_self hl]
  |succ j=>
   refine yrm is _ xs j i x (fun a b c ha hb=>?_) (by simpa using hi) (by simpa using hx) (by simpa using hl)
   have:=hn (a+1) (b+1) c (by simpa using ha) (by simpa using hb)
   omega
theorem sub_ok (hM:MemOk W0 G I w E MEM) {is:List Nat} (hn:∀ a b c:Nat,is[a]? =some c→is[b]? =some c→a=b) (hb:∀ i∈is,i<MEM.length) (hl:e.length=is.length) (he:∀ j i:Nat,is[j]? =some i→e[j]? =E[i]?)
  (hfree:∀ n∈subM MEM is,yll I n):MemOk w (ybc I w e (subM MEM is)) I w e (subM MEM is):=by
 have hget:∀ (j:Nat) (u:Value) (n:En β),e[j]? =some u→(subM MEM is)[j]? =some n→∃ i,is[j]? =some i∧E[i]? =some u∧MEM[i]? =some n:=fun j u n hu hn=>by
  obtain ⟨i,hi,hx⟩:=ynu hn
  have hlt:=hb i (zaj hi)
  refine ⟨i,hi,by rw [← he j i hi];exact hu,?_⟩
  rw [zaa hlt] at hx ⊢
  exact congrArg some hx
 refine ⟨by simp [subM,hl],fun j u n hu hn=>?_,fun j u n hu hn k hk=>?_,fun j u n hu hn hmu k hk=>.inr (footE.2 ⟨j,u,n,hu,hn,hmu,hk⟩),fun j j' u v n m hu hn' hmu hv hm hij k hk1 hk2=>?_,Mod.refl _ w,fun j u n hu hn k hk=>.inr (footO.2 ⟨j,u,n,hu,hn,hk⟩)⟩
 ·obtain ⟨i,hi,h1,h2⟩:=hget j u n hu hn
  exact hfree n (zaj hn) E e w u (hM.holds i u n h1 h2)
 ·obtain ⟨i,hi,h1,h2⟩:=hget j u n hu hn
  exact hM.lt i u n h1 h2 k hk
 ·obtain ⟨i,hi,h1,h2⟩:=hget j u n hu hn'
  obtain ⟨i',hi',h3,h4⟩:=hget j' v m hv hm
  exact hM.sep i i' u v n m h1 h2 hmu h3 h4 (fun e=>hij (by subst e;exact hn j j' i hi hi')) k hk1 hk2
theorem frame (hM:MemOk W0 G I w E MEM) {is:List Nat} (hn:∀ a b c:Nat,is[a]? =some c→is[b]? =some c→a=b) (hb:∀ i∈is,i<MEM.length) (hl:e.length=is.length) (he:∀ j i:Nat,is[j]? =some i→e[j]? =E[i]?)
  (h':MemOk w (ybc I w e (subM MEM is)) I w' e' ms) (hg:Grows e e') (hk:is.length≤ms.length) (hfree:∀ n∈ms,yll I n)
  (hmu:∀ (j:Nat) (n:En β),ms[j]? =some n→n.mu=true∨(j<is.length∧(subM MEM is)[j]? =some n)):MemOk W0 G I w' (E++e'.drop is.length) (setL MEM is ms++ms.drop is.length):=by
 have hle':e'.length=ms.length:=h'.len
 have hFM:∀ k,OwnOf I w e (subM MEM is) k→∃ (i:Nat) (u:Value) (n:En β),i∈is∧E[i]? =some u∧MEM[i]? =some n∧n.mu=true∧Own I w u n.ob k:=fun k ⟨j,u,n,hu,hn',hmu',hf⟩=>by
  obtain ⟨i,hi,hx⟩:=ynu hn'
  have hlt:=hb i (zaj hi)
  refine ⟨i,u,n,zaj hi,by rw [← he j i hi];exact hu,?_,hmu',hf⟩
  rw [zaa hlt] at hx ⊢
  exact congrArg some hx
 have hRM:∀ k,ReadOf I w e (subM MEM is) k→∃ (i:Nat) (u:Value) (n:En β),i∈is∧E[i]? =some u∧MEM[i]? =some n∧Foot I w u n.ob k:=fun k ⟨j,u,n,hu,hn',hf⟩=>by
  obtain ⟨i,hi,hx⟩:=ynu hn'
  have hlt:=hb i (zaj hi)
  refine ⟨i,u,n,zaj hi,by rw [← he j i hi];exact hu,?_,hf⟩
  rw [zaa hlt] at hx ⊢
  exact congrArg some hx
 have hmd:Mod (OwnOf I w e (subM MEM is)) w w':=h'.mod.mono fun k _ hk=>footE.1 hk
 -- an entry that is not turned
 have hdis:∀ (i:Nat) (u:Value) (n:En β),i ∉ is→E[i]? =some u→MEM[i]? =some n→∀ k,Foot I w u n.ob k→¬ OwnOf I w e (subM MEM is) k:=fun i u n hi hu hn' k hk hF=>by
  obtain ⟨i2,u2,n2,h2,g1,g2,g3,g4⟩:=hFM k hF
  exact hM.sep i2 i u2 u n2 n g1 g2 g3 hu hn' (fun e=>hi (e▸h2)) k g4 hk
 have hout:∀ (i:Nat) (u:Value) (n:En β),i ∉ is→E[i]? =some u→MEM[i]? =some n→Holds I E w' u n.mu n.ob∧∀ k,Foot I w' u n.ob k→Foot I w u n.ob k:=fun i u n hi hu hn'=>
  (hM.holds i u n hu hn').stay hmd (hdis i u n hi hu hn')
 have houtO:∀ (i:Nat) (u:Value) (n:En β),i ∉ is→E[i]? =some u→MEM[i]? =some n→∀ k,Own I w' u n.ob k→Own I w u n.ob k:=fun i u n hi hu hn'=>
  (hM.holds i u n hu hn').stayO hmd (hdis i u n hi hu hn')
 -- what is there behind the call
 have hget:∀ (i:Nat) (u:Value) (n:En β),(E++e'.drop is.length)[i]? =some u→(setL MEM is ms++ms.drop is.length)[i]? =some n→
   (i<MEM.length∧i ∉ is∧E[i]? =some u∧MEM[i]? =some n)∨∃ j,e'[j]? =some u∧ms[j]? =some n∧((j<is.length∧is[j]? =some i)∨(is.length≤j∧i=MEM.length+(j - is.length))):=fun i u n hu hn'=>by
  have hEl:E.length=MEM.length:=hM.len
  have hsl:=yjd is MEM ms
  rcases zbk i MEM.length with hi|hi
  ·rw [zad (by omega)] at hu
   rw [zad (by omega)] at hn'
   by_cases him:i∈is
   ·obtain ⟨j,hj,hje⟩:=zaz him
    have hji:is[j]? =some i:=by rw [zaa hj,hje]
    have hjm:j<ms.length:=by omega
    have:=yrm is MEM ms j i _ hn hji (zaa hjm) hi
    rw [this] at hn'
    refine .inr ⟨j,hg j u (by rw [he j i hji];exact hu),by rw [zaa hjm];exact hn',.inl ⟨hj,hji⟩⟩
   ·rw [yjc is MEM ms him] at hn'
    exact .inl ⟨hi,him,hu,hn'⟩
  ·rw [zac (by omega),zap] at hu
   rw [zac (by omega),zap] at hn'
   rw [hEl] at hu
   rw [hsl] at hn'
   exact .inr ⟨is.length+(i - MEM.length),hu,hn',.inr ⟨by omega,by omega⟩⟩
 -- what the callee left: what it reads, what it may turn
 have hin:∀ (j:Nat) (u:Value) (n:En β),e'[j]? =some u→ms[j]? =some n→∀ k,Foot I w' u n.ob k→w.heap.size≤k∨∃ (i:Nat) (u2:Value) (n2:En β),i∈is∧E[i]? =some u2∧MEM[i]? =some n2∧Foot I w u2 n2.ob k:=fun j u n hu hn' k hk=>by
  rcases h'.rd j u n hu hn' k hk with h1|h1
  ·exact .inl h1
  ·exact .inr (hRM k (footO.1 h1))
 have hinO:∀ (j:Nat) (u:Value) (n:En β),e'[j]? =some u→ms[j]? =some n→n.mu=true→∀ k,Own I w' u n.ob k→w.heap.size≤k∨∃ (i:Nat) (u2:Value) (n2:En β),i∈is∧E[i]? =some u2∧MEM[i]? =some n2∧n2.mu=true∧Own I w u2 n2.ob k:=fun j u n hu hn' hmu k hk=>by
  rcases h'.own j u n hu hn' hmu k hk with h1|h1
  ·exact .inl h1
  ·exact .inr (hFM k (footE.1 h1))
 refine ⟨by simp [yjd,hM.len,hle'],fun i u n hu hn'=>?_,fun i u n hu hn' k hk=>?_,fun i u n hu hn' hmv k hk=>?_,fun i1 i2 u1 u2 n1 n2 hu1 hn1 hmv hu2 hn2 hij k hk1 hk2=>?_,?_,fun i u n hu hn' k hk=>?_⟩
 ·rcases hget i u n hu hn' with ⟨_,hi,h1,h2⟩|⟨j,h1,h2,_⟩
  ·exact ((hout i u n hi h1 h2).1).mono fun a x hx=>by rw [zad (zab.1 hx).1];exact hx
  ·exact hfree n (zaj h2) e' _ w' u (h'.holds j u n h1 h2)
 ·rcases hget i u n hu hn' with ⟨_,hi,h1,h2⟩|⟨j,h1,h2,_⟩
  ·exact Nat.lt_of_lt_of_le (hM.lt i u n h1 h2 k ((hout i u n hi h1 h2).2 k hk)) h'.mod.size
  ·exact h'.lt j u n h1 h2 k hk
 ·rcases hget i u n hu hn' with ⟨_,hi,h1,h2⟩|⟨j,h1,h2,_⟩
  ·exact hM.own i u n h1 h2 hmv k (houtO i u n hi h1 h2 k hk)
  ·rcases hinO j u n h1 h2 hmv k hk with h3|⟨i2,u2,n2,_,g1,g2,g3,g4⟩
   ·exact .inl (zbl hM.mod.size h3)
   ·exact hM.own i2 u2 n2 g1 g2 g3 k g4
 ·rcases hget i1 u1 n1 hu1 hn1 with ⟨_,hi1,h1,h2⟩|⟨j1,h1,h2,hp1⟩
  ·have q1:=houtO i1 u1 n1 hi1 h1 h2 k hk1
   rcases hget i2 u2 n2 hu2 hn2 with ⟨_,hi2,g1,g2⟩|⟨j2,g1,g2,hp2⟩
   ·exact hM.sep i1 i2 u1 u2 n1 n2 h1 h2 hmv g1 g2 hij k q1 ((hout i2 u2 n2 hi2 g1 g2).2 k hk2)
   ·rcases hin j2 u2 n2 g1 g2 k hk2 with h3|⟨i3,u3,n3,h3,f1,f2,f4⟩
    ·have:=hM.lt i1 u1 n1 h1 h2 k q1.foot;omega
    ·exact hM.sep i1 i3 u1 u3 n1 n3 h1 h2 hmv f1 f2 (fun e=>hi1 (e▸h3)) k q1 f4
  ·rcases hget i2 u2 n2 hu2 hn2 with ⟨_,hi2,g1,g2⟩|⟨j2,g1,g2,hp2⟩
   ·have q2:=(hout i2 u2 n2 hi2 g1 g2).2 k hk2
    rcases hinO j1 u1 n1 h1 h2 hmv k hk1 with h3|⟨i3,u3,n3,h3,f1,f2,f3,f4⟩
    ·have:=hM.lt i2 u2 n2 g1 g2 k q2;omega
    ·exact hM.sep i3 i2 u3 u2 n3 n2 f1 f2 f3 g1 g2 (fun e=>hi2 (e▸h3)) k f4 q2
   ·refine h'.sep j1 j2 u1 u2 n1 n2 h1 h2 hmv g1 g2 (fun e=>hij ?_) k hk1 hk2
    subst e
    rcases hp1 with ⟨a1,a2⟩|⟨a1,a2⟩
    ·rcases hp2 with ⟨b1,b2⟩|⟨b1,b2⟩
     ·rw [a2] at b2;cases b2;rfl
     ·omega
    ·rcases hp2 with ⟨b1,b2⟩|⟨b1,b2⟩
     ·omega
     ·omega
 ·refine Mod.trans hM.mod hmd fun k hF hl0=>?_
  obtain ⟨i,u,n,_,g1,g2,g3,g4⟩:=hFM k hF
  rcases hM.own i u n g1 g2 g3 k g4 with h|h
  ·omega
  ·exact h
 ·rcases hget i u n hu hn' with ⟨_,hi,h1,h2⟩|⟨j,h1,h2,_⟩
  ·exact hM.rd i u n h1 h2 k ((hout i u n hi h1 h2).2 k hk)
  ·rcases hin j u n h1 h2 k hk with h3|⟨i2,u2,n2,_,g1,g2,g4⟩
   ·exact .inl (zbl hM.mod.size h3)
   ·exact hM.rd i2 u2 n2 g1 g2 k g4
def renN (is:List Nat) (m:Nat) (j:Nat):Nat:=match is[j]? with|some i=>i|none=>m+(j - is.length)
def renP (is:List Nat) (m:Nat):PV→PV
 |.ptr j off=>yaz (renN is m j) fun i=>.ptr i off
 |.elt j sz idx off=>yaz (renN is m j) fun i=>.elt i sz idx off
 |.obj j=>yaz (renN is m j) fun i=>.obj i
 |.sub j sz lo hi=>yaz (renN is m j) fun i=>.sub i sz lo hi
 |.win j sz idx off len cap=>yaz (renN is m j) fun i=>.win i sz idx off len cap
 |p=>p
def renC (is:List Nat) (m:Nat):CV→CV
 |.one p=>.one (renP is m p)
 |.agg ps=>.agg (ps.map (renP is m))
 |.fn f ps=>.fn f (ps.map (renP is m))
def renS (is:List Nat) (m:Nat):SV→SV
 |.c x=>.c (renC is m x)
 |.tup xs=>.tup (xs.map (renC is m))
 |x=>x
theorem yj3 {is:List Nat} {m:Nat} (h:∀ (j:Nat) (x:Value),e'[j]? =some x→E[renN is m j]? =some x) {p:PV} {u:Value} (hu:p.is e' u):(renP is m p).is E u:=by
 cases p with
 |v x=>exact hu
 |kI k n=>exact hu
 |kB b=>exact hu
 |kS s=>exact hu
 |ptr i off=>obtain ⟨b,o,h1,h2⟩:=hu;simp only [renP,yak];exact ⟨b,o,h _ _ h1,h2⟩
 |elt i sz idx off=>obtain ⟨b,o,n,c,h1,h2⟩:=hu;simp only [renP,yak];exact ⟨b,o,n,c,h _ _ h1,h2⟩
 |obj i=>simp only [renP,yak];exact h _ _ hu
 |sub i sz lo hi=>obtain ⟨ao,n,c,h1,h2⟩:=hu;simp only [renP,yak];exact ⟨ao,n,c,h _ _ h1,h2⟩
 |win i sz idx off len cap=>obtain ⟨x,b,o,h1,h2⟩:=hu;simp only [renP,yak];exact ⟨x,b,o,h _ _ h1,h2⟩
 |any=>trivial
theorem yni {is:List Nat} {m:Nat} (h:∀ (j:Nat) (x:Value),e'[j]? =some x→E[renN is m j]? =some x):∀ {ps:List PV} {us:List Value},AllIs e' ps us→AllIs E (ps.map (renP is m)) us
 |[],[],_=>trivial
 |_::_,_::_,⟨h1,h2⟩=>⟨yj3 h h1,yni h h2⟩
 |[],_::_,h=>h.elim
 |_::_,[],h=>h.elim
theorem renC_is {is:List Nat} {m:Nat} (h:∀ (j:Nat) (x:Value),e'[j]? =some x→E[renN is m j]? =some x) {c:CV} {u:Value} (hu:c.is e' u):(renC is m c).is E u:=by
 cases c with
 |one p=>exact yj3 h hu
 |agg ps=>obtain ⟨us,h1,rfl⟩:=hu;exact ⟨us,yni h h1,rfl⟩
 |fn f ps=>obtain ⟨us,h1,rfl⟩:=hu;exact ⟨us,yni h h1,rfl⟩
theorem ytj {is:List Nat} {m:Nat} (h:∀ (j:Nat) (x:Value),e'[j]? =some x→E[renN is m j]? =some x):∀ {cs:List CV} {us:List Value},AllC e' cs us→AllC E (cs.map (renC is m)) us
 |[],[],_=>trivial
 |_::_,_::_,⟨h1,h2⟩=>⟨renC_is h h1,ytj h h2⟩
 |[],_::_,h=>h.elim
 |_::_,[],h=>h.elim
def yl4:SV→Bool
 |.c _=>true
 |.tup _=>true
 |_=>false
theorem yrq {is:List Nat} {m:Nat} (h:∀ (j:Nat) (x:Value),e'[j]? =some x→E[renN is m j]? =some x) {s:SV} (hs:yl4 s=true) {u:Value} (hu:s.is e' u):(renS is m s).is E u:=by
 cases s with
 |c x=>exact renC_is h hu
 |tup xs=>obtain ⟨us,h1,rfl⟩:=hu;exact ⟨us,ytj h h1,rfl⟩
 |fn f a b=>cases hs
 |gd b x=>cases hs
abbrev Spec (β:Type):=List CV→Mem β→Option (List Nat×List Prop×SV×Mem β)
def yhv:List Nat→Bool
 |[]=>true
 |x::xs=>!memL x xs&&yhv xs
def ltB (m:Nat):List Nat→Bool
 |[]=>true
 |x::xs=>leb (x+1) m&&ltB m xs
def okMs (hard:β→Bool) (mem:Mem β):List Nat→Mem β→Bool
 |i::is,n::ms=>(match n.mu with
   |true=>(match mem[i]? with|some x=>!yjw hard x|none=>false)
   |false=>true)&&okMs hard mem is ms
 |[],n::ms=>n.mu&&okMs hard mem [] ms
 |[],[]=>true
 |_::_,[]=>false
def rowG (hard:β→Bool) (spec:Spec β):Fn2 β:=fun us mem=>match spec us mem with
 |some (is,ps,r,ms)=>(match (yhv is&&ltB mem.length is)&&(okMs hard mem is ms&&yl4 r) with
  |true=>some (ps,renS is mem.length r,some (setL mem is ms++ms.drop is.length))
  |false=>none)
 |none=>none
theorem memL_iff {d:Nat}:∀ {l:List Nat},memL d l=true↔d∈l
 |[]=>by simp [memL]
 |x::l=>by
  simp only [memL,zbt,memL_iff (l:=l),List.mem_cons,eqb_eq]
  constructor
  ·rintro (h|h)
   ·exact .inl h.symm
   ·exact .inr h
  ·rintro (h|h)
   ·exact .inl h.symm
   ·exact .inr h
theorem ycx:∀ {is:List Nat},yhv is=true→∀ a b c:Nat,is[a]? =some c→is[b]? =some c→a=b
 |[],_,a,b,c,ha,_=>by simp at ha
 |x::xs,h,a,b,c,ha,hb=>by
  simp only [yhv,zbs] at h
  have hx:x ∉ xs:=fun hm=>by rw [memL_iff.2 hm] at h;simp at h
  cases a with
  |zero=>
   cases b with
   |zero=>rfl
   |succ b=>
    simp at ha hb
    subst ha
    exact absurd (zaj hb) hx
  |succ a=>
   cases b with
   |zero=>
    simp at ha hb
    subst hb
    exact absurd (zaj ha) hx
   |succ b=>
    have:=ycx h.2 a b c (by simpa using ha) (by simpa using hb)
    omega
theorem yki {m:Nat}:∀ {is:List Nat},ltB m is=true→∀ i∈is,i<m
 |[],_,i,h=>by cases h
 |x::xs,h,i,hi=>by
  simp only [ltB,zbs] at h
  rcases List.mem_cons.1 hi with rfl|hi
  ·exact leb_le.1 h.1
  ·exact yki h.2 i hi
theorem yhu {hard:β→Bool} {mem:Mem β}:∀ {is:List Nat} {ms:Mem β},okMs hard mem is ms=true→is.length≤ms.length∧(∀ (j:Nat) (n:En β),ms[j]? =some n→n.mu=true∨j<is.length)∧
  ∀ (j i:Nat) (n:En β),is[j]? =some i→ms[j]? =some n→n.mu=true→∃ x,mem[i]? =some x∧yjw hard x=false
 |[],[],_=>⟨Nat.le_refl _,(fun j n h=>by simp at h),fun j i n h=>by simp at h⟩
 |[],n::ms,h=>by
  simp only [okMs,zbs] at h
  obtain ⟨h1,h3⟩:=h
  obtain ⟨a,c,d⟩:=yhu h3
  refine ⟨Nat.zero_le _,fun j m hm=>?_,fun j i n h=>by simp at h⟩
  ·cases j with
   |zero=>simp at hm;subst hm;exact .inl h1
   |succ j=>exact (c j m (by simpa using hm)).elim .inl fun h=>absurd h (by simp)
 |i::is,[],h=>by simp [okMs] at h
 |i::is,n::ms,h=>by
  simp only [okMs,zbs] at h
  obtain ⟨h1,h3⟩:=h
  obtain ⟨a,c,d⟩:=yhu h3
  refine ⟨by simpa using a,fun j m hm=>?_,fun j i' m hi hm hmu=>?_⟩
  ·cases j with
   |zero=>exact .inr (by simp)
   |succ j=>exact (c j m (by simpa using hm)).elim .inl fun h=>.inr (by simpa using h)
  ·cases j with
   |zero=>
    simp at hi hm
    subst hi;subst hm
    rw [hmu] at h1
    simp only at h1
    split at h1
    ·rename_i x hx;exact ⟨x,hx,by simpa using h1⟩
    ·cases h1
   |succ j=>exact d j i' m (by simpa using hi) (by simpa using hm) hmu
structure RowOk (P:Program) (I:ObI β) (hard:β→Bool) (f:FuncId) (g:Fn2 β):Prop where
 enter:∀ us w,(callFunc f us).run P w=.ok (.enter f us) w
 run:∀ W0 G args mem ps r mo,g args mem=some (ps,r,mo)→(∀ p∈ps,p)→∀ w e us,MemOk W0 G I w e mem→AllC e args us→Calls P f us.toArray w (fun x w'=>∃ v,x=.returned v∧
   match mo with|none=>r.is e v∧Ext w w'|some m'=>∃ e',Grows e e'∧r.is e' v∧MemOk W0 G I w' e' m')
 mono:∀ args m m' ps r,g args m=some (ps,r,none)→MLe m m'→g args m'=some (ps,r,none)
 loc:∀ args mem ps r m',g args mem=some (ps,r,some m')→SLe hard mem m'
theorem rowG_ok {hard:β→Bool} {f:FuncId} {spec:Spec β} (he:∀ us w,(callFunc f us).run P w=.ok (.enter f us) w)
  (h:∀ args mem is ps r ms,spec args mem=some (is,ps,r,ms)→(∀ (j i:Nat) (n:En β),is[j]? =some i→ms[j]? =some n→n.mu=false→mem[i]? =some n)∧(∀ n∈subM mem is,yll I n)∧(∀ n∈ms,yll I n)∧
   ((∀ p∈ps,p)→∀ W0 G w E us e,MemOk W0 G I w E mem→AllC E args us→e.length=is.length→(∀ j i:Nat,is[j]? =some i→e[j]? =E[i]?)→MemOk w (ybc I w e (subM mem is)) I w e (subM mem is)→
    Calls P f us.toArray w (fun x w'=>∃ v e',x=.returned v∧Grows e e'∧r.is e' v∧MemOk w (ybc I w e (subM mem is)) I w' e' ms))):RowOk P I hard f (rowG hard spec):=by
 refine ⟨he,fun W0 G args mem ps r mo hr hp w E us hM ha=>?_,fun args m m' ps r hr=>?_,fun args mem ps r m' hr=>?_⟩
 ·unfold rowG at hr
  split at hr
  ·rename_i is ps' r' ms hs
   split at hr
   ·rename_i hB
    simp only [Option.some.injEq,Prod.mk.injEq] at hr
    obtain ⟨rfl,rfl,rfl⟩:=hr
    simp only [zbs] at hB
    obtain ⟨⟨hB1,hB2⟩,hB3,hB4⟩:=hB
    obtain ⟨hro,hfr,hfr2,hc⟩:=h args mem is ps' r' ms hs
    have hn:=ycx hB1
    have hb:=yki hB2
    obtain ⟨q1,q3,q4⟩:=yhu hB3
    let e:Env:=is.map fun i=>E.getD i undef
    have hel:e.length=is.length:=by simp [e]
    have hee:∀ j i:Nat,is[j]? =some i→e[j]? =E[i]? :=fun j i hj=>by
     have hlt:i<E.length:=by rw [hM.len];exact hb i (zaj hj)
     simp only [e,zan,hj,Option.map_some,List.getD_eq_getElem?_getD]
     rw [zaa hlt];rfl
    have hsub:=sub_ok (e:=e) hM hn hb hel hee hfr
    refine (hc hp W0 G w E us e hM ha hel hee hsub).mono fun x w' ⟨v,e',hx,hg,hv,hM'⟩=>⟨v,hx,E++e'.drop is.length,fun i u hu=>by rw [zad (zab.1 hu).1];exact hu,?_,?_⟩
    ·refine yrq (fun j u hj=>?_) hB4 hv
     unfold renN
     cases hji:is[j]? with
     |some i=>
      simp only
      have hlt:i<E.length:=by rw [hM.len];exact hb i (zaj hji)
      rw [zad hlt]
      have h1:=hee j i hji
      rw [zaa hlt] at h1 ⊢
      have:=hg j _ h1
      rw [hj] at this
      exact this.symm
     |none=>
      simp only
      have hge:is.length≤j:=by
       rcases zbk j is.length with h|h
       ·rw [zaa h] at hji;cases hji
       ·exact h
      rw [← hM.len,zac (by omega),zap,show is.length+(E.length+(j - is.length) - E.length)=j by omega]
      exact hj
    ·refine frame hM hn hb hel hee hM' hg q1 hfr2 fun j n hj=>?_
     cases hmu:n.mu with
     |true=>exact .inl rfl
     |false=>
      rcases q3 j n hj with h1|h1
      ·rw [hmu] at h1;cases h1
      ·refine .inr ⟨h1,?_⟩
       have hji:is[j]? =some is[j]:=zaa h1
       have:=hro j is[j] n hji hj hmu
       simp only [subM,zan,hji,Option.map_some,this]
   ·cases hr
  ·cases hr
 ·unfold rowG at hr
  split at hr
  ·split at hr<;>simp at hr
  ·cases hr
 ·unfold rowG at hr
  split at hr
  ·rename_i is ps' r' ms hs
   split at hr
   ·rename_i hB
    simp only [Option.some.injEq,Prod.mk.injEq] at hr
    obtain ⟨_,_,rfl⟩:=hr
    simp only [zbs] at hB
    obtain ⟨⟨hB1,hB2⟩,hB3,_⟩:=hB
    obtain ⟨hro,_,_,_⟩:=h args mem is ps' r' ms hs
    have hn:=ycx hB1
    have hb:=yki hB2
    obtain ⟨q1,q3,q4⟩:=yhu hB3
    intro i en hi hsol
    have hlt:i<mem.length:=(zab.1 hi).1
    rw [zad (by rw [yjd];exact hlt)]
    by_cases him:i∈is
    ·obtain ⟨j,hj,hje⟩:=zaz him
     have hji:is[j]? =some i:=by rw [zaa hj,hje]
     have hjm:j<ms.length:=by omega
     have hmj:=zaa hjm
     rw [yrm is mem ms j i _ hn hji hmj hlt]
     cases hmu:ms[j].mu with
     |true=>
      obtain ⟨x,hx,hns⟩:=q4 j i _ hji hmj hmu
      rw [hi] at hx;cases hx
      rw [hns] at hsol;cases hsol
     |false=>
      have:=hro j i _ hji hmj hmu
      rw [hi] at this
      exact this.symm
    ·rw [yjc is mem ms him];exact hi
   ·cases hr
  ·cases hr
def FnsR (P:Program) (I:ObI β) (hard:β→Bool) (F:Fns β):Prop:=∀ f g,yhz f F=some g→RowOk P I hard f g
theorem FnsR.nil {hard:β→Bool}:FnsR P I hard ([]:Fns β):=fun f g h=>by cases h
theorem FnsR.cons {hard:β→Bool} {F:Fns β} {f:FuncId} {g:Fn2 β} (h:RowOk P I hard f g) (ht:FnsR P I hard F):FnsR P I hard ((f,g)::F):=fun f' g' hg=>by
 simp only [yhz] at hg
 split at hg
 ·rename_i hb
  have:=eqb_eq.1 hb
  subst this
  simp only [Option.some.injEq] at hg
  subst hg
  exact h
 ·exact ht f' g' hg
theorem vfn_ok {hard:β→Bool} {f:FuncId} {g:List Value→Option (List Prop×Value)} (he:∀ us w,(callFunc f us).run P w=.ok (.enter f us) w)
  (h:∀ args ps r,g args=some (ps,r)→(∀ p∈ps,p)→∀ w,Calls P f args.toArray w (fun e w'=>e=.returned r∧Ext w w')):RowOk P I hard f (vfn g):=by
 have hno:∀ (args:List CV) (mem:Mem β) ps r m',(vfn g args mem:Option (List Prop×SV×Option (Mem β)))=some (ps,r,some m')→False:=fun args mem ps r m' hr=>by
  unfold vfn at hr
  split at hr
  ·split at hr
   ·simp at hr
   ·cases hr
  ·cases hr
 refine ⟨he,fun W0 G args mem ps r mo hr hp w e us hM ha=>?_,fun args m m' ps r hr _=>hr,fun args mem ps r m' hr=>(hno _ _ _ _ _ hr).elim⟩
 unfold vfn at hr
 split at hr
 ·rename_i vs hvs
  split at hr
  ·rename_i ps' v hg
   simp only [Option.some.injEq,Prod.mk.injEq] at hr
   obtain ⟨rfl,rfl,rfl⟩:=hr
   rw [ykh hvs ha]
   exact (h vs ps' v hg hp w).mono fun x w' ⟨h1,h2⟩=>⟨v,h1,yrh e v,h2⟩
  ·cases hr
 ·cases hr
structure HoOk (P:Program) (H:Ho β) (I:ObI β):Prop where
 app:∀ W0 G t args mem ps r m',H.app t args mem=some (ps,r,some m')→(∀ p∈ps,p)→∀ ty w e us,MemOk W0 G I w e mem→AllC e args us→
  ∃ e' v w',Grows e e'∧(Builtin.append_ #[t,t] ty us.toArray).run P w=.ok v w'∧r.is e' v∧MemOk W0 G I w' e' m'
 ops:∀ W0 G op args mem ps r mo,H.ops op args mem=some (ps,r,mo)→(∀ p∈ps,p)→∀ (o:Oper) ρ w e,o.op=op→MemOk W0 G I w e mem→AllC e args (op.operands.toList.map ρ)→
  yai P (fun v w'=>match mo with|none=>r.is e v∧Ext w w'|some m'=>∃ e',Grows e e'∧r.is e' v∧MemOk W0 G I w' e' m') ((execOp ρ o).run P w)
 opm:∀ op args m m' ps r,H.ops op args m=some (ps,r,none)→MLe m m'→H.ops op args m'=some (ps,r,none)
 opb:∀ t k qs args mem ps r m',allB (roC mem) args=true→H.ops (.buildSlice t k qs) args mem=some (ps,r,some m')→Keep mem m'
 opa:∀ op args mem ps r m',yr9 op=true→H.ops op args mem=some (ps,r,some m')→Keep mem m'
 apl:∀ t u v mem ps r m',H.app t [u,v] mem=some (ps,r,some m')→∀ j en,mem[j]? =some en→(∀ p,u=.one p→ycd p≠some j)→m'[j]? =some en
 ost:∀ t x y p v mem ps r m',noHC v=true→H.ops (.store t x y) [.one p,v] mem=some (ps,r,some m')→∃ i,ycd p=some i∧∀ j en,mem[j]? =some en→j≠i→m'[j]? =some en
theorem SyOk0.mk2 {E:EqFns} {fuel:Nat} {H:Ho β} {F:Fns β} (hm:P.follows .mixedOrders=true) (hH:HoOk P H I) (hF:FnsR P I H.hard F) (hE:∀ ty g,ygw ty E=some g→P.eqGuardType P.depth ty=false∧∀ (u v:Array Value) b,g u.toList v.toList=some b→∀ w,(Op.equal ty (.agg u) (.agg v)).run P w=.ok b w):
  SyOk0 (⟨P,F,E,H,I.one,fuel⟩:Sy β) I W0 G:=
 ⟨hm,rfl,(fun f g hg args mem ps r mo hr hp=>⟨(hF f g hg).enter,(hF f g hg).run W0 G args mem ps r mo hr hp⟩),hE,(fun t args mem ps r m' h hp=>hH.app W0 G t args mem ps r m' h hp),(fun op args mem ps r mo h hp=>hH.ops W0 G op args mem ps r mo h hp),
  (fun _=>hH.opm),(fun _ f g hg=>(hF f g hg).mono),(fun _ f g hg=>(hF f g hg).loc),(fun _=>hH.opb),(fun _=>hH.opa),(fun _=>hH.ost),(fun _=>hH.apl)⟩
theorem SyOk.mk2 {E:EqFns} {fuel:Nat} {H:Ho β} {F:Fns β} (hm:P.follows .mixedOrders=true) (hH:HoOk P H I) (hF:FnsR P I H.hard F) (hE:∀ ty g,ygw ty E=some g→P.eqGuardType P.depth ty=false∧∀ (u v:Array Value) b,g u.toList v.toList=some b→∀ w,(Op.equal ty (.agg u) (.agg v)).run P w=.ok b w):
  SyOk (⟨P,F,E,H,I.one,fuel⟩:Sy β) I W0 G:=⟨SyOk0.mk2 hm hH hF hE,fun _ W1 G1=>SyOk0.mk2 hm hH hF hE⟩
end
section
variable {β:Type} {S:Sy β} {I:ObI β} {W0:World} {G:Nat→Prop} {L:Lps β} {sz:Nat} {w w':World} {e e':Env} {mem:Mem β}
def distB:List (Option Nat)→Bool
 |[]=>true
 |none::xs=>distB xs
 |some i::xs=>!memO i xs&&distB xs
theorem yk4:∀ {xs:List (Option Nat)},distB xs=true→∀ (j j' i:Nat),xs[j]? =some (some i)→xs[j']? =some (some i)→j=j'
 |[],_,j,j',i,h,_=>by simp at h
 |none::xs,h,j,j',i,h1,h2=>by
  cases j with
  |zero=>simp at h1
  |succ j=>
   cases j' with
   |zero=>simp at h2
   |succ j'=>
    have:=yk4 (xs:=xs) h j j' i (by simpa using h1) (by simpa using h2)
    omega
 |some x::xs,h,j,j',i,h1,h2=>by
  simp only [distB,zbs] at h
  have hx:some x ∉ xs:=fun hm=>by rw [memO_mem.2 hm] at h;simp at h
  cases j with
  |zero=>
   cases j' with
   |zero=>rfl
   |succ j'=>
    simp at h1 h2
    subst h1
    exact absurd (zaj h2) hx
  |succ j=>
   cases j' with
   |zero=>
    simp at h1 h2
    subst h2
    exact absurd (zaj h1) hx
   |succ j'=>
    have:=yk4 h.2 j j' i (by simpa using h1) (by simpa using h2)
    omega
def fitI (k0:Nat) (xs:List (Option Nat)) (i n:Nat):Bool:=(eqb n i&&leb (i+1) k0)||(leb k0 n&&(match xs[n - k0]? with|some (some j)=>eqb j i|_=>false))
def fitN (k0:Nat) (xs:List (Option Nat)) (n:Nat):Bool:=leb k0 n&&(match xs[n - k0]? with|some none=>true|_=>false)
theorem ysj {k0:Nat} (hk:k0≤e.length) {xs:List (Option Nat)} {i n:Nat} (h:fitI k0 xs i n=true) {u:Value} (hu:e[i]? =some u):(pEnv k0 e xs)[n]? =some u:=by
 unfold fitI at h
 rw [zbt,zbs,zbs] at h
 rcases h with ⟨h1,h2⟩|⟨h1,h2⟩
 ·have h1:=eqb_eq.1 h1
  subst h1
  rw [yie hk xs (leb_le.1 h2)];exact hu
 ·have h1:=leb_le.1 h1
  split at h2
  ·rename_i j hj
   have h2:=eqb_eq.1 h2
   subst h2
   obtain ⟨q,rfl⟩:∃ q,n=k0+q:=⟨n - k0,by omega⟩
   rw [show k0+q - k0=q by omega] at hj
   rw [yr1 hk,hj]
   simp [evOf,hu]
  ·cases h2
theorem yje {k0:Nat} (hk:k0≤e.length) (xs:List (Option Nat)) {x:SV} (h:scS k0 x=true) {u:Value} (hu:x.is e u):x.is (pEnv k0 e xs) u:=
 SV.is_mono (fun i y hy=>by
  rw [List.getElem?_take] at hy
  split at hy
  ·rename_i hi;rw [yie hk xs hi];exact hy
  ·cases hy) (scS_is h hu)
end
section
variable {β:Type} {I:ObI β} {P:Program} {hard:β→Bool} {f:FuncId}
def hOf:PV→Option Nat
 |.obj i=>some i
 |.ptr i 0=>some i
 |_=>none
theorem ykp {e:Env} {p:PV} {i:Nat} (h:hOf p=some i) {u:Value} (hu:p.is e u):e[i]? =some u:=by
 unfold hOf at h
 split at h
 ·simp only [Option.some.injEq] at h;subst h;exact hu
 ·simp only [Option.some.injEq] at h;subst h
  obtain ⟨b,o,h1,rfl⟩:=hu
  exact h1
 ·cases h
theorem yau {x:PV} {e:Env} {u:Value} (h:(CV.one x).is e u):x.is e u:=h
abbrev Spec1 (β:Type):=List CV→Mem β→Option (Nat×List Prop×SV×β)
def row1 (hard:β→Bool) (sp:Spec1 β):Fn2 β:=rowG hard fun us mem=>match sp us mem with
 |some (i,ps,r,b')=>(match mem[i]? with
  |some ⟨.us _,true⟩=>some ([i],ps,r,[⟨.us b',true⟩])
  |_=>none)
 |none=>none
theorem yng {sp:Spec1 β} (he:∀ us w,(callFunc f us).run P w=.ok (.enter f us) w)
  (h:∀ args mem i ps r b b',sp args mem=some (i,ps,r,b')→mem[i]? =some ⟨.us b,true⟩→(∀ p∈ps,p)→∀ W0 G w E us u,MemOk W0 G I w E mem→AllC E args us→E[i]? =some u→I.holds b w u→
   Calls P f us.toArray w (fun x w'=>∃ v,x=.returned v∧r.is [u] v∧Mod (fun k=>I.own b w u k) w w'∧I.holds b' w' u∧∀ k,I.foot b' w' u k→(I.own b w u k∨w.heap.size≤k)∧k<w'.heap.size)):RowOk P I hard f (row1 hard sp):=by
 refine rowG_ok he fun args mem is ps r ms hs=>?_
 split at hs
 ·rename_i i ps' r' b' hsp
  split at hs
  ·rename_i b hm
   simp only [Option.some.injEq,Prod.mk.injEq] at hs
   obtain ⟨rfl,rfl,rfl,rfl⟩:=hs
   have hsub:subM mem [i]=[⟨.us b,true⟩]:=by simp [subM,hm]
   refine ⟨fun j i' n hj hn hmu=>?_,fun n hn=>?_,fun n hn=>?_,fun hp W0 G w E us e hM ha hl hee h0=>?_⟩
   ·cases j with
    |zero=>simp at hn;subst hn;cases hmu
    |succ j=>simp at hn
   ·rw [hsub] at hn;simp at hn;subst hn;exact yf1 rfl
   ·simp at hn;subst hn;exact yf1 rfl
   ·rw [hsub] at h0 ⊢
    have hi:i<E.length:=by rw [hM.len];exact (zab.1 hm).1
    have hE:=zaa hi
    have he0:=hee 0 i rfl
    rw [hE] at he0
    obtain ⟨u,rfl⟩:∃ u,e=[u]:=by
     match e,hl with
     |[u],_=>exact ⟨u,rfl⟩
    simp at he0
    subst he0
    refine (h args mem i ps' r' b b' hsp hm hp W0 G w E us _ hM ha hE (hM.holds i _ _ hE hm)).mono fun x w' ⟨v,hx,hv,hmod,hh,hf⟩=>⟨v,_,hx,Grows.refl _,hv,?_⟩
    exact h0.upd (i:=0) (o:=.us b) rfl rfl hmod ⟨.us b',true⟩ hh hf
  ·cases hs
 ·cases hs
abbrev SpecN (β:Type):=List CV→Mem β→Option (List Prop×SV×β)
def rowN (hard:β→Bool) (sp:SpecN β):Fn2 β:=rowG hard fun us mem=>match sp us mem with
 |some (ps,r,b)=>some ([],ps,r,[⟨.us b,true⟩])
 |none=>none
theorem yg3 {sp:SpecN β} (he:∀ us w,(callFunc f us).run P w=.ok (.enter f us) w)
  (h:∀ args mem ps r b,sp args mem=some (ps,r,b)→(∀ p∈ps,p)→∀ W0 G w E us,MemOk W0 G I w E mem→AllC E args us→
   Calls P f us.toArray w (fun x w'=>∃ v v0,x=.returned v∧r.is [v0] v∧Ext w w'∧I.holds b w' v0∧∀ k,I.foot b w' v0 k→w.heap.size≤k∧k<w'.heap.size)):RowOk P I hard f (rowN hard sp):=by
 refine rowG_ok he fun args mem is ps r ms hs=>?_
 split at hs
 ·rename_i ps' r' b hsp
  simp only [Option.some.injEq,Prod.mk.injEq] at hs
  obtain ⟨rfl,rfl,rfl,rfl⟩:=hs
  refine ⟨fun j i' n hj=>by simp at hj,fun n hn=>by simp [subM] at hn,fun n hn=>?_,fun hp W0 G w E us e hM ha hl hee h0=>?_⟩
  ·simp at hn;subst hn;exact yf1 rfl
  ·have he0:e=[]:=List.eq_nil_of_length_eq_zero hl
   subst he0
   refine (h args mem ps' r' b hsp hp W0 G w E us hM ha).mono fun x w' ⟨v,v0,hx,hv,hext,hh,hf⟩=>⟨v,[v0],hx,(fun i x h=>by simp at h),hv,?_⟩
   have:=h0.push hext v0 ⟨.us b,true⟩ hh hf
   exact this
 ·cases hs
abbrev SpecP (β:Type):=List CV→Mem β→Option (List Prop×Value)
def rowP (sp:SpecP β):Fn2 β:=fun us mem=>match sp us mem with
 |some (ps,v)=>some (ps,svOf v,none)
 |none=>none
theorem yrp {sp:SpecP β} (he:∀ us w,(callFunc f us).run P w=.ok (.enter f us) w) (hm:∀ args m m' ps v,sp args m=some (ps,v)→MLe m m'→sp args m'=some (ps,v))
  (h:∀ args mem ps v,sp args mem=some (ps,v)→(∀ p∈ps,p)→∀ W0 G w E us,MemOk W0 G I w E mem→AllC E args us→Calls P f us.toArray w (fun x w'=>x=.returned v∧Ext w w')):RowOk P I hard f (rowP sp):=by
 refine ⟨he,fun W0 G args mem ps r mo hr hp w E us hM ha=>?_,fun args m m' ps r hr hl=>?_,fun args mem ps r m' hr=>?_⟩
 ·unfold rowP at hr
  split at hr
  ·rename_i ps' v hs
   simp only [Option.some.injEq,Prod.mk.injEq] at hr
   obtain ⟨rfl,rfl,rfl⟩:=hr
   exact (h args mem ps' v hs hp W0 G w E us hM ha).mono fun x w' ⟨h1,h2⟩=>⟨v,h1,yrh E v,h2⟩
  ·cases hr
 ·unfold rowP at hr ⊢
  split at hr
  ·rename_i ps' v hs
   rw [hm _ _ _ _ _ hs hl];exact hr
  ·cases hr
 ·unfold rowP at hr
  split at hr<;>simp at hr
theorem yiq {e:Env} {x:CV} {us:List Value} (h:AllC e [x] us):∃ u,us=[u]∧x.is e u:=by
 match us,h with
 |[u],h=>exact ⟨u,rfl,h.1⟩
 |u::v::us,h=>exact h.2.elim
theorem ygx {e:Env} {x y:CV} {us:List Value} (h:AllC e [x,y] us):∃ u v,us=[u,v]∧x.is e u∧y.is e v:=by
 match us,h with
 |u::us,h=>obtain ⟨v,rfl,h2⟩:=yiq h.2;exact ⟨u,v,rfl,h.1,h2⟩
theorem allC3 {e:Env} {x y z:CV} {us:List Value} (h:AllC e [x,y,z] us):∃ u v t,us=[u,v,t]∧x.is e u∧y.is e v∧z.is e t:=by
 match us,h with
 |u::us,h=>obtain ⟨v,t,rfl,h2⟩:=ygx h.2;exact ⟨u,v,t,rfl,h.1,h2⟩
theorem allC0 {e:Env} {us:List Value} (h:AllC e [] us):us=[]:=by cases us with|nil=>rfl|cons u us=>exact h.elim
end
section
variable {P:Program}
def isBlank (s : String) : Bool := decide (s = "_")
def eqFs (P:Program) (rec:TypeId→Value→Value→Option Bool) (xs ys:Array Value):List Field→Option Bool
 |[]=>some true
 |f::fs=>match isBlank f.name with
  |true=>eqFs P rec xs ys fs
  |false=>match yan P (part f.type xs f.offset),yan P (part f.type ys f.offset) with
   |some a,some b=>(match rec f.type a b,eqFs P rec xs ys fs with
    |some r,some rs=>some (r&&rs)
    |_,_=>none)
   |_,_=>none
def eqEs (P:Program) (rec:TypeId→Value→Value→Option Bool) (e:TypeId) (n:Nat) (xs ys:Array Value):List Nat→Option Bool
 |[]=>some true
 |i::is=>match yan P (part e xs (i * n)),yan P (part e ys (i * n)) with
   |some a,some b=>(match rec e a b,eqEs P rec e n xs ys is with
    |some r,some rs=>some (r&&rs)
    |_,_=>none)
   |_,_=>none
def eqVs (P:Program):Nat→TypeId→Value→Value→Option Bool
 |0,_,_,_=>none
 |d+1,t,x,y=>match P.underlying t,x,y with
  |some .bool,.bool a,.bool b=>some (a==b)
  |some (.int _),.int k a,.int k' b=>(match eqK k k' with|true=>some (a==b)|false=>none)
  |some .string,.string a,.string b=>some (a==b)
  |some (.struct fs),.agg xs,.agg ys=>(match P.stoodInHeld t with
   |false=>eqFs P (eqVs P d) xs ys fs.toList
   |true=>none)
  |some (.array len e),.agg xs,.agg ys=>(match yan P (sizeOf e) with
   |some n=>eqEs P (eqVs P d) e n xs ys (List.range' 0 len)
   |none=>none)
  |_,_,_=>none
theorem yud:∀ (d:Nat) (t:TypeId) (x y:Value) (b:Bool),eqVs P d t x y=some b→∀ (D:Nat) (w:World),d≤D→(Op.equalIn D t x y).run P w=.ok b w
 |0,_,_,_,_,h,_,_,_=>by cases h
 |d+1,t,x,y,b,h,D,w,hD=>by
  obtain ⟨D,rfl⟩:∃ D',D=D'+1:=⟨D - 1,by omega⟩
  have ih:=yud d
  unfold eqVs at h
  split at h
  ·rename_i a c hu
   simp only [Option.some.injEq] at h;subst h
   exact run_equalIn_bool w D t a c hu
  ·rename_i k k' a k'' c hu
   split at h
   ·rename_i hk
    simp only [eqK,decide_eq_true_eq] at hk
    subst hk
    simp only [Option.some.injEq] at h;subst h
    exact run_equalIn_int w D t k' k a c hu
   ·cases h
  ·rename_i a c hu
   simp only [Option.some.injEq] at h;subst h
   rw [run_equalIn_string w D t a c hu,beq_toListBytes]
  ·rename_i fs xs ys hu
   split at h
   ·rename_i hst
    have hF:P.fieldsOf t=fs:=by simp [Program.fieldsOf,hu]
    rw [run_equalIn_struct w D t xs ys (by rw [hF];exact hu) hst,hF]
    have key:∀ (l:List Field) (b:Bool),eqFs P (eqVs P d) xs ys l=some b→∀ w,(Op.eqFields D xs ys l).run P w=.ok b w:=by
     intro l
     induction l with
     |nil=>intro b hb w;simp only [eqFs,Option.some.injEq] at hb;subst hb;simp [Op.eqFields]
     |cons f l ihl=>
      intro b hb w
      simp only [eqFs] at hb
      split at hb
      ·rename_i hbl
       have hbl : f.name = "_" := of_decide_eq_true hbl
       simp only [Op.eqFields, if_neg (show ¬ f.name ≠ "_" from fun h => h hbl)]
       exact ihl b hb w
      ·rename_i hbl
       have hbl : f.name ≠ "_" := of_decide_eq_false hbl
       split at hb
       ·rename_i a c ha hc
        split at hb
        ·rename_i r rs hr hrs
         simp only [Option.some.injEq] at hb
         subst hb
         simp only [Op.eqFields,if_pos hbl,Sem.run_bind,yam _ ha,yam _ hc,Result.andThen_ok,ih f.type a c r hr D _ (by omega)]
         cases r with
         |true=>simpa using ihl rs hrs w
         |false=>simp
        ·cases hb
       ·cases hb
    exact key fs.toList b h w
   ·cases h
  ·rename_i len e xs ys hu
   split at h
   ·rename_i n hn
    have hn':=fun w=>yam (sizeOf e) hn w
    simp only [Op.equalIn,Sem.run_bind,run_underlying hu,Result.andThen_ok,hn']
    rw [Std.Legacy.Range.forIn_eq_forIn_range']
    have hr:List.range' ([0:len]:Std.Legacy.Range).start ([0:len]:Std.Legacy.Range).size ([0:len]:Std.Legacy.Range).step=List.range' 0 len:=by simp [Std.Legacy.Range.size]
    rw [hr]
    have key:∀ (l:List Nat) (b:Bool),eqEs P (eqVs P d) e n xs ys l=some b→∀ w,(do
      let r ←forIn l ((none,()):Option Bool×Unit) (fun i r=>do
       let a ←part e xs (i * n)
       let c ←part e ys (i * n)
       let q ←Op.equalIn D e a c
       if q=false then pure (ForInStep.done (some false,())) else pure (ForInStep.yield (none,())))
      match r.fst with
      |some q=>pure q
      |none=>pure true:Sem Bool).run P w=.ok b w:=by
     intro l
     induction l with
     |nil=>intro b hb w;simp only [eqEs,Option.some.injEq] at hb;subst hb;simp
     |cons i l ihl=>
      intro b hb w
      simp only [eqEs] at hb
      split at hb
      ·rename_i a c ha hc
       split at hb
       ·rename_i r rs hr hrs
        simp only [Option.some.injEq] at hb
        subst hb
        have ihl':=ihl rs hrs w
        simp only [Sem.run_bind] at ihl'
        simp only [List.forIn_cons,Sem.run_bind,yam _ ha,yam _ hc,Result.andThen_ok,ih e a c r hr D _ (by omega)]
        cases r with
        |true=>simpa using ihl'
        |false=>simp
       ·cases hb
      ·cases hb
    have:=key _ b h w
    simp only [Sem.run_bind] at this
    simp at this ⊢
    rw [← this]
    congr 1
    funext a w2
    rcases a with ⟨q,_⟩
    cases q<;>rfl
   ·cases h
  ·cases h
def E_of (P:Program) (ty:TypeId):TypeId×(List Value→List Value→Option Bool):=(ty,fun u v=>eqVs P 12 ty (.agg u.toArray) (.agg v.toArray))
theorem E_of_ok {ty:TypeId} {E:EqFns} (hg:P.eqGuardType P.depth ty=false) (ht:∀ ty g,ygw ty E=some g→P.eqGuardType P.depth ty=false∧∀ (u v:Array Value) b,g u.toList v.toList=some b→∀ w,(Op.equal ty (.agg u) (.agg v)).run P w=.ok b w):
  ∀ ty' g',ygw ty' (E_of P ty::E)=some g'→P.eqGuardType P.depth ty'=false∧∀ (u v:Array Value) b,g' u.toList v.toList=some b→∀ w,(Op.equal ty' (.agg u) (.agg v)).run P w=.ok b w:=
 EqsOk.cons hg (fun u v b h w=>yud 12 ty _ _ b (by simpa using h) Op.maxDepth w (by decide)) ht
end
inductive SmT (β:Type) where
 |leaf (x:SX) (U:List (Nat×SV)) (X:Mem β)
 |br (b:Bool) (t e:SmT β)
 |need (ps:List Prop) (t:SmT β)
section
variable {β:Type} {S:Sy β} {I:ObI β} {W0:World} {G:Nat→Prop} {L:Lps β} {sz:Nat} {w w':World} {e e':Env} {mem:Mem β}
def SmT.holds (K:SX→List (Nat×SV)→Mem β→Prop):SmT β→Prop
 |.leaf x U X=>K x U X
 |.br b t e=>(b=true→t.holds K)∧(b=false→e.holds K)
 |.need ps t=>(∀ p∈ps,p)∧t.holds K
def idxN (i:Nat):List Nat→Nat→Option Nat
 |[],_=>none
 |x::xs,n=>match eqb x i with|true=>some n|false=>yaz (n+1) fun m=>idxN i xs m
def hsP:PV→List Nat→List Nat
 |.obj i,is=>(match memL i is with|true=>is|false=>is++[i])
 |.ptr i _,is=>(match memL i is with|true=>is|false=>is++[i])
 |.elt i _ _ _,is=>(match memL i is with|true=>is|false=>is++[i])
 |.sub i _ _ _,is=>(match memL i is with|true=>is|false=>is++[i])
 |.win i _ _ _ _ _,is=>(match memL i is with|true=>is|false=>is++[i])
 |_,is=>is
def hsPs:List PV→List Nat→List Nat
 |[],is=>is
 |p::ps,is=>hsPs ps (hsP p is)
def dnP (is:List Nat):PV→Option PV
 |.obj i=>(match idxN i is 0 with|some j=>some (.obj j)|none=>none)
 |.ptr i off=>(match idxN i is 0 with|some j=>some (.ptr j off)|none=>none)
 |.elt i s x off=>(match idxN i is 0 with|some j=>some (.elt j s x off)|none=>none)
 |.sub i s lo hi=>(match idxN i is 0 with|some j=>some (.sub j s lo hi)|none=>none)
 |.win i s x off len cap=>(match idxN i is 0 with|some j=>some (.win j s x off len cap)|none=>none)
 |p=>some p
theorem yt3 {i:Nat}:∀ {is:List Nat} {n j:Nat},idxN i is n=some j→n≤j∧is[j - n]? =some i
 |[],_,_,h=>by cases h
 |x::xs,n,j,h=>by
  simp only [idxN] at h
  split at h
  ·rename_i he
   simp only [Option.some.injEq] at h
   subst h
   rw [eqb_eq.1 he];simp
  ·rw [yak] at h
   obtain ⟨h1,h2⟩:=yt3 h
   exact ⟨by omega,by rw [show j - n=(j - (n+1))+1 by omega];simpa using h2⟩
theorem dnP_is {is:List Nat} {E e0:Env} (he:∀ j i:Nat,is[j]? =some i→e0[j]? =E[i]?) {p q:PV} (h:dnP is p=some q) {u:Value} (hu:p.is E u):q.is e0 u:=by
 have key:∀ (i j:Nat) (x:Value),idxN i is 0=some j→E[i]? =some x→e0[j]? =some x:=fun i j x hj hx=>by
  have:=(yt3 hj).2
  rw [Nat.sub_zero] at this
  rw [he j i this];exact hx
 unfold dnP at h
 split at h
 ·split at h
  ·rename_i j hj
   simp only [Option.some.injEq] at h;subst h
   exact key _ j u hj hu
  ·cases h
 ·split at h
  ·rename_i j hj
   simp only [Option.some.injEq] at h;subst h
   obtain ⟨b,o,h1,h2⟩:=hu
   exact ⟨b,o,key _ j _ hj h1,h2⟩
  ·cases h
 ·split at h
  ·rename_i j hj
   simp only [Option.some.injEq] at h;subst h
   obtain ⟨b,o,n,c,h1,h2⟩:=hu
   exact ⟨b,o,n,c,key _ j _ hj h1,h2⟩
  ·cases h
 ·split at h
  ·rename_i j hj
   simp only [Option.some.injEq] at h;subst h
   obtain ⟨ao,n,c,h1,h2⟩:=hu
   exact ⟨ao,n,c,key _ j _ hj h1,h2⟩
  ·cases h
 ·split at h
  ·rename_i j hj
   simp only [Option.some.injEq] at h;subst h
   obtain ⟨x,b,o,h1,h2⟩:=hu
   exact ⟨x,b,o,key _ j _ hj h1,h2⟩
  ·cases h
 ·simp only [Option.some.injEq] at h;subst h
  cases p with
  |v x=>exact hu
  |kI k n=>exact hu
  |kB b=>exact hu
  |kS s=>exact hu
  |any=>trivial
  |obj i=>rename_i h1 _ _ _ _;exact (h1 i rfl).elim
  |ptr i off=>rename_i _ h2 _ _ _;exact (h2 i off rfl).elim
  |elt i a b c=>rename_i _ _ h3 _ _;exact (h3 i a b c rfl).elim
  |sub i a b c=>rename_i _ _ _ h4 _;exact (h4 i a b c rfl).elim
  |win i a b c d f=>rename_i _ _ _ _ h5;exact (h5 i a b c d f rfl).elim
theorem ysr {is:List Nat} {E e0:Env} (he:∀ j i:Nat,is[j]? =some i→e0[j]? =E[i]?):∀ {ps qs:List PV} {us:List Value},mapO (dnP is) ps=some qs→AllIs E ps us→AllIs e0 qs us
 |[],qs,us,h,hu=>by
  simp only [mapO,Option.some.injEq] at h;subst h
  cases us<;>exact hu
 |p::ps,qs,us,h,hu=>by
  cases us with
  |nil=>exact hu.elim
  |cons u us=>
   simp only [mapO] at h
   split at h
   ·cases h
   ·rename_i y hy
    split at h
    ·cases h
    ·rename_i ys hys
     simp only [Option.some.injEq] at h
     subst h
     exact ⟨dnP_is he hy hu.1,ysr he hys hu.2⟩
def valB (p:PV):Bool:=match p with
 |.v _=>true
 |.kI _ _=>true
 |.kB _=>true
 |.kS _=>true
 |_=>false
theorem valB_is {p:PV} (h:valB p=true) {e e':Env} {u:Value} (hu:p.is e u):p.is e' u:=by
 cases p<;>first|exact hu|cases h
end
end Go.Proofs.Ytiiekgcjilelpaa
