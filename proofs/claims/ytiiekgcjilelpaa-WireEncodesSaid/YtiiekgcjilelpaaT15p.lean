/- T15. -/
import Derived.Test.YtiiekgcjilelpaaE4p
open List renaming getElem?_eq_getElem → zaa, getElem?_eq_some_iff → zab, mem_append_right → zag, mem_append_left → zah, mem_cons_of_mem → zak, mem_cons_self → zal
open Bool renaming and_eq_true → zbs, or_eq_true → zbt
set_option linter.unusedSimpArgs false
set_option linter.unusedVariables false
namespace Go.Proofs.Ytiiekgcjilelpaa
open Go.RowKit
section
variable {β:Type} {S:Sy β} {I:ObI β} {W0:World} {G:Nat→Prop} {L:Lps β} {sz:Nat} {w w':World} {e e':Env} {mem:Mem β}
def andO:Option (List Prop)→Option (List Prop)→Option (List Prop)
 |some ps,some qs=>some (ps++qs)
 |_,_=>none
theorem ycq {a b:Option (List Prop)} {ps:List Prop} (h:andO a b=some ps) (hp:∀ p∈ps,p):(∃ qs,a=some qs∧∀ p∈qs,p)∧∃ qs,b=some qs∧∀ p∈qs,p:=by
 unfold andO at h
 split at h
 ·simp only [Option.some.injEq] at h
  subst h
  exact ⟨⟨_,rfl,fun p hq=>hp p (zah _ hq)⟩,_,rfl,fun p hq=>hp p (zag _ hq)⟩
 ·cases h
def fitPo (k0:Nat) (xs:List (Option Nat)) (p q:PV):Option (List Prop):=match q with
 |.any=>some []
 |.obj n=>(match p with
  |.obj i=>(match fitI k0 xs i n with|true=>some []|false=>none)
  |.v (.slice none 0 0)=>(match fitN k0 xs n with|true=>some []|false=>none)
  |_=>none)
 |.ptr n d=>(match p with
  |.ptr i o=>(match fitI k0 xs i n&&eqb o d with|true=>some []|false=>none)
  |_=>none)
 |.elt _ _ _ _=>none
 |.sub n s l h=>(match p with
  |.sub i s' l' h'=>(match fitI k0 xs i n with|true=>some [s=s'∧l=l'∧h=h']|false=>none)
  |_=>none)
 |.win _ _ _ _ _ _=>none
 |.v x=>(match valP p with|some u=>some [u=x]|none=>none)
 |.kI k x=>(match valP p with|some u=>some [u=.int k x]|none=>none)
 |.kB x=>(match valP p with|some u=>some [u=.bool x]|none=>none)
 |.kS x=>(match valP p with|some u=>some [u=.string x]|none=>none)
theorem ynz {k0:Nat} (hk:k0≤e.length) {xs:List (Option Nat)} {p q:PV} {ps:List Prop} (h:fitPo k0 xs p q=some ps) (hp:∀ p∈ps,p) {u:Value} (hu:p.is e u):q.is (pEnv k0 e xs) u:=by
 unfold fitPo at h
 split at h
 ·trivial
 ·rename_i n
  split at h
  ·split at h
   ·rename_i hb;exact ysj hk hb hu
   ·cases h
  ·split at h
   ·rename_i hb
    unfold fitN at hb
    rw [zbs] at hb
    have h1:=leb_le.1 hb.1
    have h2:=hb.2
    split at h2
    ·rename_i hj
     obtain ⟨q,rfl⟩:∃ q,n=k0+q:=⟨n - k0,by omega⟩
     rw [show k0+q - k0=q by omega] at hj
     have hu':u=.slice none 0 0:=hu
     show (pEnv k0 e xs)[k0+q]? =some u
     rw [yr1 hk,hj,hu']
     simp [evOf,nilV]
    ·cases h2
   ·cases h
  ·cases h
 ·split at h
  ·split at h
   ·rename_i hb
    rw [zbs] at hb
    have h2:=eqb_eq.1 hb.2
    subst h2
    obtain ⟨b,o,h1,rfl⟩:=hu
    exact ⟨b,o,ysj hk hb.1 h1,rfl⟩
   ·cases h
  ·cases h
 ·cases h
 ·split at h
  ·split at h
   ·rename_i hb
    simp only [Option.some.injEq] at h
    subst h
    obtain ⟨rfl,rfl,rfl⟩:=hp _ (zal ..)
    obtain ⟨ao,n,c,h1,h2⟩:=hu
    exact ⟨ao,n,c,ysj hk hb h1,h2⟩
   ·cases h
  ·cases h
 ·cases h
 all_goals
  split at h
  ·rename_i v hv
   simp only [Option.some.injEq] at h
   subst h
   have h1:=hp _ (zal ..)
   have h2:=yad hv hu
   show u=_
   rw [h2];exact h1
  ·cases h
def yfs (k0:Nat) (xs:List (Option Nat)):List PV→List PV→Option (List Prop)
 |[],[]=>some []
 |p::ps,q::qs=>andO (fitPo k0 xs p q) (yfs k0 xs ps qs)
 |_,_=>none
theorem ye0 {k0:Nat} (hk:k0≤e.length) {xs:List (Option Nat)}:∀ {ps qs:List PV} {Ps:List Prop},yfs k0 xs ps qs=some Ps→(∀ p∈Ps,p)→∀ (j:Nat) (q:PV),qs[j]? =some q→∃ p,ps[j]? =some p∧∀ u,p.is e u→q.is (pEnv k0 e xs) u
 |[],[],_,_,_,j,q,hq=>by simp at hq
 |p::ps,q::qs,Ps,h,hp,j,q',hq=>by
  simp only [yfs] at h
  obtain ⟨⟨_,h0,h1⟩,_,h2,h3⟩:=ycq h hp
  cases j with
  |zero=>simp at hq;subst hq;exact ⟨p,rfl,fun u hu=>ynz hk h0 h1 hu⟩
  |succ j=>exact ye0 hk h2 h3 j q' (by simpa using hq)
 |[],_::_,_,h,_,_,_,_=>by simp [yfs] at h
 |_::_,[],_,h,_,_,_,_=>by simp [yfs] at h
theorem ykv {k0:Nat} (hk:k0≤e.length) {xs:List (Option Nat)}:∀ {ps qs:List PV} {Ps:List Prop},yfs k0 xs ps qs=some Ps→(∀ p∈Ps,p)→∀ {us:List Value},AllIs e ps us→AllIs (pEnv k0 e xs) qs us
 |[],[],_,_,_,us,hu=>by cases us<;>exact hu
 |p::ps,q::qs,Ps,h,hp,us,hu=>by
  simp only [yfs] at h
  obtain ⟨⟨_,h0,h1⟩,_,h2,h3⟩:=ycq h hp
  cases us with
  |nil=>exact hu.elim
  |cons u us=>exact ⟨ynz hk h0 h1 hu.1,ykv hk h2 h3 hu.2⟩
 |[],_::_,_,h,_,_,_=>by simp [yfs] at h
 |_::_,[],_,h,_,_,_=>by simp [yfs] at h
def FitKS (k0:Nat) (xs:List (Option Nat)) (K K':KS):Prop:=K.sz=K'.sz∧K.n=K'.n∧∀ i,i<K.n→∃ ps,yfs k0 xs (K.cells i) (K'.cells i)=some ps∧∀ p∈ps,p
theorem yqa (k0:Nat) (xs:List (Option Nat)):∀ cs:List PV,allB valB cs=true→∃ ps,yfs k0 xs cs cs=some ps∧∀ p∈ps,p
 |[],_=>⟨[],rfl,fun p h=>by cases h⟩
 |c::cs,h=>by
  simp only [allB,zbs] at h
  obtain ⟨ps,h1,h2⟩:=yqa k0 xs cs h.2
  have:∃ qs,fitPo k0 xs c c=some qs∧∀ p∈qs,p:=by
   have h0:=h.1
   cases c<;>simp only [valB,Bool.false_eq_true] at h0
   all_goals exact ⟨_,rfl,fun p hp=>(List.mem_singleton.1 hp)▸rfl⟩
  obtain ⟨qs,h3,h4⟩:=this
  refine ⟨qs++ps,by simp only [yfs,h1,h3,andO],fun p hp=>?_⟩
  rcases List.mem_append.1 hp with hp|hp
  ·exact h4 p hp
  ·exact h2 p hp
theorem FitKS.refl {k0:Nat} {xs:List (Option Nat)} {K:KS} (h:∀ i,allB valB (K.cells i)=true):FitKS k0 xs K K:=⟨rfl,rfl,fun i _=>yqa k0 xs _ (h i)⟩
def fitOb (k0:Nat) (xs:List (Option Nat)) (o n:Ob β):Option (List Prop):=match n with
 |.dead=>some []
 |.blk ds=>(match o with|.blk cs=>yfs k0 xs cs ds|.bx cs=>yfs k0 xs cs ds|_=>none)
 |.bx ds=>(match o with|.blk cs=>yfs k0 xs cs ds|.bx cs=>yfs k0 xs cs ds|_=>none)
 |.us c=>(match o with|.us b=>some [b=c]|_=>none)
 |.sl K' _=>(match o with|.sl K _=>some [FitKS k0 xs K K']|_=>none)
def muB (o n:En β):Bool:=match n.mu with
 |true=>o.mu
 |false=>true
def yeb (n:En β):Bool:=match n.ob with
 |.dead=>true
 |_=>false
def ysk (k0:Nat) (xs:List (Option Nat)) (o n:En β):Option (List Prop):=match yeb n with
 |true=>some []
 |false=>(match muB o n with
  |true=>fitOb k0 xs o.ob n.ob
  |false=>none)
def nilEn (I:ObI β) (n:En β):Option (List Prop):=match n.ob with
 |.dead=>some []
 |.us b=>some [∀ w,I.holds b w nilV∧∀ j,¬ I.foot b w nilV j]
 |.sl K _=>some [K.n=0]
 |.blk _=>none
 |.bx _=>none
theorem ygr {k0:Nat} (hk:k0≤e.length) {xs:List (Option Nat)} {o n:En β} {ps:List Prop} (h:ysk k0 xs o n=some ps) (hp:∀ p∈ps,p) {u:Value} (hu:Holds I e w u o.mu o.ob):
  Holds I (pEnv k0 e xs) w u n.mu n.ob∧(∀ k,Foot I w u n.ob k→Foot I w u o.ob k)∧(∀ k,Own I w u n.ob k→Own I w u o.ob k)∧(yeb n=false→n.mu=true→o.mu=true):=by
 unfold ysk at h
 split at h
 ·rename_i hd
  obtain ⟨ob,mu⟩:=n
  cases ob<;>simp only [yeb,Bool.false_eq_true] at hd
  exact ⟨hu.oneCell,fun k hk=>hk.elim,fun k hk=>hk.elim,fun h=>by simp [yeb] at h⟩
 ·split at h
  ·rename_i hmu
   have hmu':n.mu=true→o.mu=true:=fun hm=>by unfold muB at hmu;rw [hm] at hmu;exact hmu
   obtain ⟨nob,nmu⟩:=n
   obtain ⟨oob,omu⟩:=o
   simp only at h hu hmu' ⊢
   unfold fitOb at h
   split at h
   ·simp_all [yeb]
   ·split at h
    ·rename_i cs
     obtain ⟨b,o,rfl,hc⟩:=hu
     refine ⟨⟨b,o,rfl,fun j q hq=>?_⟩,fun k hk=>hk,fun k hk=>hk,fun _=>hmu'⟩
     obtain ⟨p,hp1,hp2⟩:=ye0 hk h hp j q hq
     obtain ⟨x,g1,g2,g3⟩:=hc j p hp1
     exact ⟨x,g1,hp2 x g2,fun hm=>g3 (hmu' hm)⟩
    ·rename_i cs
     obtain ⟨b,o,rfl,hc⟩:=hu
     refine ⟨⟨b,o,rfl,fun j q hq=>?_⟩,fun k hk=>hk,fun k hk=>hk,fun _=>hmu'⟩
     obtain ⟨p,hp1,hp2⟩:=ye0 hk h hp j q hq
     obtain ⟨x,g1,g2,g3⟩:=hc j p hp1
     exact ⟨x,g1,hp2 x g2,fun hm=>g3 (hmu' hm)⟩
    ·cases h
   ·split at h
    ·rename_i cs
     obtain ⟨b,o,rfl,hc⟩:=hu
     refine ⟨⟨b,o,rfl,fun j q hq=>?_⟩,fun k hk=>hk,fun k hk=>hk,fun _=>hmu'⟩
     obtain ⟨p,hp1,hp2⟩:=ye0 hk h hp j q hq
     obtain ⟨x,g1,g2,g3⟩:=hc j p hp1
     exact ⟨x,g1,hp2 x g2,fun hm=>g3 (hmu' hm)⟩
    ·rename_i cs
     obtain ⟨b,o,rfl,hc⟩:=hu
     refine ⟨⟨b,o,rfl,fun j q hq=>?_⟩,fun k hk=>hk,fun k hk=>hk,fun _=>hmu'⟩
     obtain ⟨p,hp1,hp2⟩:=ye0 hk h hp j q hq
     obtain ⟨x,g1,g2,g3⟩:=hc j p hp1
     exact ⟨x,g1,hp2 x g2,fun hm=>g3 (hmu' hm)⟩
    ·cases h
   ·split at h
    ·simp only [Option.some.injEq] at h
     subst h
     have:=hp _ (zal ..)
     subst this
     exact ⟨hu,fun k hk=>hk,fun k hk=>hk,fun _=>hmu'⟩
    ·cases h
   ·split at h
    ·simp only [Option.some.injEq] at h
     subst h
     obtain ⟨q1,q2,q3⟩:=hp _ (zal ..)
     obtain ⟨ao,cap,rfl,g1,g2,g3,g4⟩:=hu
     refine ⟨⟨ao,cap,by rw [q2],by rw [← q2];exact g1,g2,g3,fun a ha=>⟨by rw [← q2];exact (g4 a ha).1,fun i hi j q hq=>?_⟩⟩,(fun k hk=>⟨by rw [q2];exact hk.1,hk.2⟩),(fun k hk=>⟨by rw [q2];exact hk.1,hk.2⟩),fun _=>hmu'⟩
     rw [← q2] at hi
     obtain ⟨ps,h1,h2⟩:=q3 i hi
     obtain ⟨p,hp1,hp2⟩:=ye0 hk h1 h2 j q hq
     obtain ⟨x,f1,f2⟩:=(g4 a ha).2 i hi j p hp1
     exact ⟨x,by rw [← q1];exact f1,hp2 x f2⟩
    ·cases h
  ·cases h
theorem ygn {n:En β} {ps:List Prop} (h:nilEn I n=some ps) (hp:∀ p∈ps,p) (e:Env) (w:World):Holds I e w nilV n.mu n.ob∧∀ k,¬ Foot I w nilV n.ob k:=by
 obtain ⟨ob,mu⟩:=n
 unfold nilEn at h
 cases ob with
 |dead=>exact ⟨rfl,fun k hk=>hk⟩
 |us b=>
  simp only [Option.some.injEq] at h
  subst h
  exact hp _ (zal ..) w
 |sl K b=>
  simp only [Option.some.injEq] at h
  subst h
  have h0:K.n=0:=hp _ (zal ..)
  exact ⟨⟨none,0,by rw [h0];rfl,by omega,by omega,(fun _=>rfl),fun a ha=>by cases ha⟩,fun k hk=>hk.1 h0⟩
 |blk c=>simp at h
 |bx c=>simp at h
def ywa (k0:Nat) (xs:List (Option Nat)):Nat→Mem β→Mem β→Option (List Prop)
 |0,_,_=>some []
 |m+1,o::os,n::ns=>andO (ysk k0 xs o n) (ywa k0 xs m os ns)
 |_,_,_=>none
def yqg (X:Mem β) (i:Nat):Bool:=match X[i]? with
 |some n=>yeb n
 |none=>false
def roAt (X:Mem β) (i:Nat):Bool:=match X[i]? with
 |some n=>!n.mu
 |none=>false
def yn0 (I:ObI β) (k0:Nat) (xs:List (Option Nat)) (mem X:Mem β):List (Option Nat)→Mem β→Option (List Prop)
 |[],[]=>some []
 |some i::ys,n::ns=>(match mem[i]?,leb k0 i||(yqg X i||(!n.mu&&roAt X i)) with
  |some o,true=>andO (ysk k0 xs o n) (yn0 I k0 xs mem X ys ns)
  |_,_=>none)
 |none::ys,n::ns=>andO (nilEn I n) (yn0 I k0 xs mem X ys ns)
 |_,_=>none
def fitM (I:ObI β) (k0:Nat) (xs:List (Option Nat)) (mem X:Mem β):Option (List Prop):=match distB xs&&leb k0 mem.length with
 |true=>andO (ywa k0 xs k0 mem X) (yn0 I k0 xs mem X xs (X.drop k0))
 |false=>none
theorem yp9 {k0:Nat} {xs:List (Option Nat)}:∀ {m:Nat} {os ns:Mem β} {ps:List Prop},ywa k0 xs m os ns=some ps→(∀ p∈ps,p)→m≤ns.length∧∀ (i:Nat) (n:En β),i<m→ns[i]? =some n→∃ (o:En β) (qs:List Prop),os[i]? =some o∧ysk k0 xs o n=some qs∧∀ p∈qs,p
 |0,_,_,_,_,_=>⟨Nat.zero_le _,fun i n h=>by omega⟩
 |m+1,o::os,n::ns,ps,h,hp=>by
  simp only [ywa] at h
  obtain ⟨⟨qs,h0,h1⟩,_,h2,h3⟩:=ycq h hp
  obtain ⟨g1,g2⟩:=yp9 h2 h3
  refine ⟨by simpa using g1,fun i n' hi hn=>?_⟩
  cases i with
  |zero=>simp at hn;subst hn;exact ⟨o,qs,rfl,h0,h1⟩
  |succ i=>simpa using g2 i n' (by omega) (by simpa using hn)
 |m+1,[],_,_,h,_=>by simp [ywa] at h
 |m+1,_::_,[],_,h,_=>by simp [ywa] at h
theorem yku {k0:Nat} {xs:List (Option Nat)} {mem X:Mem β}:∀ {ys:List (Option Nat)} {ns:Mem β} {ps:List Prop},yn0 I k0 xs mem X ys ns=some ps→(∀ p∈ps,p)→ys.length=ns.length∧∀ (j:Nat) (n:En β),ns[j]? =some n→
  (∃ (i:Nat) (o:En β) (qs:List Prop),ys[j]? =some (some i)∧mem[i]? =some o∧(k0≤i∨yqg X i=true∨n.mu=false∧roAt X i=true)∧ysk k0 xs o n=some qs∧∀ p∈qs,p)∨(ys[j]? =some none∧∃ qs,nilEn I n=some qs∧∀ p∈qs,p)
 |[],[],_,_,_=>⟨rfl,fun j n h=>by simp at h⟩
 |some i::ys,n::ns,ps,h,hp=>by
  simp only [yn0] at h
  split at h
  ·rename_i o ho hb
   obtain ⟨⟨qs,h0,h1⟩,_,h2,h3⟩:=ycq h hp
   obtain ⟨g1,g2⟩:=yku h2 h3
   refine ⟨by simp [g1],fun j n' hn=>?_⟩
   cases j with
   |zero=>
    simp at hn
    subst hn
    refine .inl ⟨i,o,qs,rfl,ho,?_,h0,h1⟩
    rw [zbt,zbt,zbs,Bool.not_eq_true'] at hb
    exact hb.imp leb_le.1 id
   |succ j=>simpa using g2 j n' (by simpa using hn)
  ·cases h
 |none::ys,n::ns,ps,h,hp=>by
  simp only [yn0] at h
  obtain ⟨⟨qs,h0,h1⟩,_,h2,h3⟩:=ycq h hp
  obtain ⟨g1,g2⟩:=yku h2 h3
  refine ⟨by simp [g1],fun j n' hn=>?_⟩
  cases j with
  |zero=>simp at hn;subst hn;exact .inr ⟨rfl,qs,h0,h1⟩
  |succ j=>simpa using g2 j n' (by simpa using hn)
 |[],_::_,_,h,_=>by simp [yn0] at h
 |some _::_,[],_,h,_=>by simp [yn0] at h
 |none::_,[],_,h,_=>by simp [yn0] at h
theorem MemOk.fit (hM:MemOk W0 G I w e mem) {k0:Nat} {xs:List (Option Nat)} {X:Mem β} {ps:List Prop} (h:fitM I k0 xs mem X=some ps) (hp:∀ p∈ps,p):k0≤e.length∧MemOk W0 G I w (pEnv k0 e xs) X:=by
 unfold fitM at h
 split at h
 case h_2=>cases h
 rename_i hb
 rw [zbs] at hb
 have hd:=yk4 hb.1
 have hk:k0≤e.length:=by rw [hM.len];exact leb_le.1 hb.2
 obtain ⟨⟨_,l1,l2⟩,_,r1,r2⟩:=ycq h hp
 obtain ⟨l3,l4⟩:=yp9 l1 l2
 obtain ⟨r3,r4⟩:=yku r1 r2
 refine ⟨hk,?_⟩
 have hXl:X.length=k0+xs.length:=by rw [List.length_drop] at r3;omega
 -- what stands behind each
 have hget:∀ (n:Nat) (u:Value) (m:En β),(pEnv k0 e xs)[n]? =some u→X[n]? =some m→
   (∃ i o,((n<k0∧i=n)∨(k0≤n∧xs[n - k0]? =some (some i)∧(k0≤i∨yqg X i=true∨m.mu=false∧roAt X i=true)))∧e[i]? =some u∧mem[i]? =some o∧∃ qs,ysk k0 xs o m=some qs∧∀ p∈qs,p)∨(u=nilV∧∃ qs,nilEn I m=some qs∧∀ p∈qs,p):=fun n u m hu hm=>by
  rcases Nat.lt_or_ge n k0 with hn|hn
  ·rw [yie hk xs hn] at hu
   obtain ⟨o,qs,h1,h2⟩:=l4 n m hn hm
   exact .inl ⟨n,o,.inl ⟨hn,rfl⟩,hu,h1,qs,h2⟩
  ·obtain ⟨j,rfl⟩:∃ j,n=k0+j:=⟨n - k0,by omega⟩
   rw [yr1 hk] at hu
   rcases r4 j m (by rw [List.getElem?_drop];exact hm) with ⟨i,o,qs,h1,h2,h3,h4⟩|⟨h1,h2⟩
   ·rw [h1] at hu
    simp only [Option.map_some,Option.some.injEq] at hu
    have hl:i<e.length:=by rw [hM.len];exact (zab.1 h2).1
    simp only [evOf,zaa hl] at hu
    exact .inl ⟨i,o,.inr ⟨hn,by rw [show k0+j - k0=j by omega];exact h1,h3⟩,by rw [zaa hl,hu],h2,qs,h4⟩
   ·rw [h1] at hu
    simp only [Option.map_some,Option.some.injEq] at hu
    exact .inr ⟨hu.symm,h2⟩
 have dead:∀ (n:Nat) (m:En β),X[n]? =some m→yqg X n=true→yeb m=true:=fun n m hm hd=>by
  unfold yqg at hd
  rw [hm] at hd
  exact hd
 have nofoot:∀ (m:En β) (u:Value) (k:Nat),yeb m=true→¬ Foot I w u m.ob k:=fun m u k hd hf=>by
  obtain ⟨ob,mu⟩:=m
  cases ob<;>simp only [yeb,Bool.false_eq_true] at hd
  exact hf
 refine ⟨by rw [pEnv_len hk,hXl],fun n u m hu hm=>?_,fun n u m hu hm k hk'=>?_,fun n u m hu hm hmu k hk'=>?_,fun n1 n2 u1 u2 m1 m2 hu1 hm1 hmu hu2 hm2 hne k hk1 hk2=>?_,hM.mod,fun n u m hu hm k hk'=>?_⟩
 ·rcases hget n u m hu hm with ⟨i,o,_,h1,h2,qs,h3,h4⟩|⟨rfl,qs,h1,h2⟩
  ·exact (ygr hk h3 h4 (hM.holds i u o h1 h2)).1
  ·exact (ygn h1 h2 _ w).1
 ·rcases hget n u m hu hm with ⟨i,o,_,h1,h2,qs,h3,h4⟩|⟨rfl,qs,h1,h2⟩
  ·exact hM.lt i u o h1 h2 k ((ygr hk h3 h4 (hM.holds i u o h1 h2)).2.1 k hk')
  ·exact absurd hk' ((ygn h1 h2 e w).2 k)
 ·rcases hget n u m hu hm with ⟨i,o,_,h1,h2,qs,h3,h4⟩|⟨rfl,qs,h1,h2⟩
  ·obtain ⟨_,_,g2,g3⟩:=ygr hk h3 h4 (hM.holds i u o h1 h2)
   cases hdd:yeb m with
   |true=>exact absurd hk'.foot (nofoot m u k hdd)
   |false=>exact hM.own i u o h1 h2 (g3 hdd hmu) k (g2 k hk')
  ·exact absurd hk'.foot ((ygn h1 h2 e w).2 k)
 ·cases hd1:yeb m1 with
  |true=>exact nofoot m1 u1 k hd1 hk1.foot
  |false=>
   cases hd2:yeb m2 with
   |true=>exact nofoot m2 u2 k hd2 hk2
   |false=>
    rcases hget n1 u1 m1 hu1 hm1 with ⟨i,o,s1,h1,h2,qs,h3,h4⟩|⟨rfl,qs,h1,h2⟩
    ·rcases hget n2 u2 m2 hu2 hm2 with ⟨i',o',s2,h1',h2',qs',h3',h4'⟩|⟨rfl,qs,h1',h2'⟩
     ·obtain ⟨_,_,g2,g3⟩:=ygr hk h3 h4 (hM.holds i u1 o h1 h2)
      obtain ⟨_,f2,_,f3⟩:=ygr hk h3' h4' (hM.holds i' u2 o' h1' h2')
      refine hM.sep i i' u1 u2 o o' h1 h2 (g3 hd1 hmu) h1' h2' (fun he=>?_) k (g2 k hk1) (f2 k hk2)
      subst he
      rcases s1 with ⟨a1,rfl⟩|⟨a1,a2,a3⟩
      ·rcases s2 with ⟨b1,b2⟩|⟨b1,b2,b3⟩
       ·exact hne b2
       ·rcases b3 with b3|b3|⟨_,b3⟩
        ·omega
        ·rw [dead _ m1 hm1 b3] at hd1;cases hd1
        ·unfold roAt at b3
         rw [hm1] at b3
         simp only [hmu] at b3
         cases b3
      ·rcases s2 with ⟨b1,rfl⟩|⟨b1,b2,b3⟩
       ·rcases a3 with a3|a3|⟨a3,_⟩
        ·omega
        ·rw [dead _ m2 hm2 a3] at hd2;cases hd2
        ·rw [hmu] at a3;cases a3
       ·have:=hd (n1 - k0) (n2 - k0) i a2 b2
        omega
     ·exact (ygn h1' h2' e w).2 k hk2
    ·exact (ygn h1 h2 e w).2 k hk1.foot
 ·rcases hget n u m hu hm with ⟨i,o,_,h1,h2,qs,h3,h4⟩|⟨rfl,qs,h1,h2⟩
  ·exact hM.rd i u o h1 h2 k ((ygr hk h3 h4 (hM.holds i u o h1 h2)).2.1 k hk')
  ·exact absurd hk' ((ygn h1 h2 e w).2 k)
def fitSv (k0:Nat) (xs:List (Option Nat)) (y x:SV):Option (List Prop):=match x with
 |.c (.one .any)=>some []
 |.c (.one q)=>(match y with|.c (.one p)=>fitPo k0 xs p q|_=>none)
 |.c (.agg qs)=>(match y with|.c (.agg ps)=>yfs k0 xs ps qs|_=>none)
 |.c (.fn f qs)=>(match y with|.c (.fn g ps)=>(match eqb f g with|true=>yfs k0 xs ps qs|false=>none)|_=>none)
 |_=>none
theorem fitSv_is {k0:Nat} (hk:k0≤e.length) {xs:List (Option Nat)} {y x:SV} {ps:List Prop} (h:fitSv k0 xs y x=some ps) (hp:∀ p∈ps,p) {u:Value} (hu:y.is e u):x.is (pEnv k0 e xs) u:=by
 unfold fitSv at h
 split at h
 ·trivial
 ·split at h
  ·exact ynz hk h hp hu
  ·cases h
 ·split at h
  ·obtain ⟨us,h1,rfl⟩:=hu
   exact ⟨us,ykv hk h hp h1,rfl⟩
  ·cases h
 ·split at h
  ·split at h
   ·rename_i he
    obtain rfl:=eqb_eq.1 he
    obtain ⟨us,h1,rfl⟩:=hu
    exact ⟨us,ykv hk h hp h1,rfl⟩
   ·cases h
  ·cases h
 ·cases h
def fitV (k0:Nat) (xs:List (Option Nat)):List (Nat×SV)→List (Nat×SV)→Option (List Prop)
 |[],_=>some []
 |(t,x)::r,b=>(match yab t b with
  |some y=>andO (fitSv k0 xs y x) (fitV k0 xs r b)
  |none=>none)
theorem yt9 {k0:Nat} (hk:k0≤e.length) {xs:List (Option Nat)} {b:List (Nat×SV)}:∀ {U:List (Nat×SV)} {ps:List Prop},fitV k0 xs U b=some ps→(∀ p∈ps,p)→∀ p∈U,∃ y,yab p.1 b=some y∧∀ u,y.is e u→p.2.is (pEnv k0 e xs) u
 |[],_,_,_,p,hp=>by cases hp
 |(t,x)::r,ps,h,hps,p,hp=>by
  simp only [fitV] at h
  split at h
  ·rename_i y hy
   obtain ⟨⟨qs,h0,h1⟩,_,h2,h3⟩:=ycq h hps
   rcases List.mem_cons.1 hp with rfl|hp
   ·exact ⟨y,hy,fun u hu=>fitSv_is hk h0 h1 hu⟩
   ·exact yt9 hk h2 h3 p hp
  ·cases h
def yv7 (n:Nat):List (Nat×SV)→Bool
 |[]=>true
 |(t,_)::r=>leb (t+1) n&&yv7 n r
theorem yko {n t:Nat} (ht:n≤t):∀ {b:List (Nat×SV)},yv7 n b=true→yab t b=none
 |[],_=>rfl
 |(u,x)::r,h=>by
  simp only [yv7,zbs] at h
  have:=leb_le.1 h.1
  simp only [yab]
  rw [ymk (by omega)]
  exact yko ht h.2
theorem yv6 {n t:Nat} {b:List (Nat×SV)} (h:yv7 n b=true) (ht:n≤t):yab t b=none:=yko ht h
def tabB (f:Nat→SV):Nat→List (Nat×SV)
 |0=>[]
 |n+1=>(n,f n)::tabB f n
theorem yi8 {f:Nat→SV} {t:Nat}:∀ n:Nat,yab t (tabB f n)=if t<n then some (f t) else none
 |0=>by simp [tabB,yab]
 |n+1=>by
  simp only [tabB,yab]
  cases h:eqb n t with
  |true=>have:=eqb_eq.1 h;subst this;simp
  |false=>
   have hne:n≠t:=fun e=>by rw [e,eqb_eq.2 rfl] at h;cases h
   simp only [yi8 n]
   by_cases ht:t<n
   ·rw [if_pos ht,if_pos (by omega)]
   ·rw [if_neg ht,if_neg (by omega)]
def tabV (f:Nat→Value) (n:Nat):List (Nat×SV):=tabB (fun j=>svV (f j)) n
theorem yre {a:Act} {t:Nat} (hs:a.tmps.size=sz) (h:¬ t<sz):a.tmps.getD t undef=undef:=by
 rw [Array.getD_eq_getD_getElem?,Array.getElem?_eq_none (by omega)]
 rfl
theorem head_fr {W:List Nat} {U R base:List (Nat×SV)} {k0:Nat} {xs:List (Option Nat)} {a:Act} (hk:k0≤e.length) (hf:FrOk [] base e a sz) (hU:∀ p∈U,∃ y,yab p.1 base=some y∧∀ u,y.is e u→p.2.is (pEnv k0 e xs) u)
  (hsR:ycm k0 R=true) (hR:FitL R base):FrOk [] (U++yb9 W (R++tabV (fun j=>a.tmps.getD j undef) sz)) (pEnv k0 e xs) a sz:=by
 refine ⟨hf.defers,hf.size,fun t=>?_⟩
 simp only [ybb,yas]
 have hs:=hf.slot t
 rcases ya0 (t:=t) (r:=yb9 W (R++tabV (fun j=>a.tmps.getD j undef) sz)) (pre:=U) with ⟨x,h1,h2⟩|⟨_,h2⟩
 ·rw [h2]
  obtain ⟨y,hy,hfit⟩:=hU _ (ya3 h1)
  simp only [ybb,yas,show yab t base=some y from hy] at hs
  exact hfit _ hs
 ·rw [h2]
  by_cases ht:t∈W
  ·rw [(ybt (W:=W)).1 ht];trivial
  ·rw [(ybt (W:=W)).2 ht]
   rcases ya0 (t:=t) (r:=tabV (fun j=>a.tmps.getD j undef) sz) (pre:=R) with ⟨x,h3,h4⟩|⟨_,h4⟩
   ·rw [h4]
    have hx:=hR.mem _ (ya3 h3)
    cases hy:yab t base with
    |none=>rw [hy] at hx;exact hx.elim
    |some y=>
     simp only [ybb,yas,hy] at hs
     rw [hy] at hx
     have hx':vS y=vS x:=hx
     exact yje hk xs (ycn hsR h3) (vS_is.1 (hx'▸vS_is.2 hs))
   ·rw [h4,tabV,yi8]
    by_cases hts:t<sz
    ·rw [if_pos hts];rfl
    ·rw [if_neg hts];exact yre hf.size hts
theorem next_fr {W:List Nat} {U R b:List (Nat×SV)} {f:Nat→Value} {k0:Nat} {xs:List (Option Nat)} {a:Act} (hk:k0≤e.length) (hf:FrOk [] b e a sz) (hU:∀ p∈U,∃ y,yab p.1 b=some y∧∀ u,y.is e u→p.2.is (pEnv k0 e xs) u)
  (hsR:ycm k0 R=true) (hb:∀ t,t ∉ W→yab t b=yab t (R++tabV f sz)):FrOk [] (U++yb9 W (R++tabV f sz)) (pEnv k0 e xs) a sz:=by
 refine ⟨hf.defers,hf.size,fun t=>?_⟩
 simp only [ybb,yas]
 have hs:=hf.slot t
 rcases ya0 (t:=t) (r:=yb9 W (R++tabV f sz)) (pre:=U) with ⟨x,h1,h2⟩|⟨_,h2⟩
 ·rw [h2]
  obtain ⟨y,hy,hfit⟩:=hU _ (ya3 h1)
  simp only [ybb,yas,show yab t b=some y from hy] at hs
  exact hfit _ hs
 ·rw [h2]
  by_cases ht:t∈W
  ·rw [(ybt (W:=W)).1 ht];trivial
  ·rw [(ybt (W:=W)).2 ht]
   simp only [ybb,yas,hb t ht] at hs
   rcases ya0 (t:=t) (r:=tabV f sz) (pre:=R) with ⟨x,h3,h4⟩|⟨_,h4⟩
   ·rw [h4] at hs ⊢
    exact yje hk xs (ycn hsR h3) hs
   ·rw [h4,tabV,yi8] at hs ⊢
    by_cases hts:t<sz
    ·rw [if_pos hts] at hs ⊢;exact hs
    ·rw [if_neg hts];exact yre hf.size hts
theorem out_fr {W:List Nat} {U R b base:List (Nat×SV)} {e0:Env} {a0:Act} {k0:Nat} {xs:List (Option Nat)} {a:Act} (hk:k0≤e.length) (hf:FrOk [] b e a sz) (hU:∀ p∈U,∃ y,yab p.1 b=some y∧∀ u,y.is e u→p.2.is (pEnv k0 e xs) u)
  (hsR:ycm k0 R=true) (hR:FitL R base) (hkey:∀ t,¬ t<sz→yab t base=none) (h0:FrOk [] base e0 a0 sz) (hg:Grows e0 (pEnv k0 e xs)) (hb:∀ t,t ∉ W→yab t b=yab t (R++tabV (fun j=>a0.tmps.getD j undef) sz)):FrOk [] (U++yb9 W base) (pEnv k0 e xs) a sz:=by
 refine ⟨hf.defers,hf.size,fun t=>?_⟩
 simp only [ybb,yas]
 have hs:=hf.slot t
 have hs0:=h0.slot t
 rcases ya0 (t:=t) (r:=yb9 W base) (pre:=U) with ⟨x,h1,h2⟩|⟨_,h2⟩
 ·rw [h2]
  obtain ⟨y,hy,hfit⟩:=hU _ (ya3 h1)
  simp only [ybb,yas,show yab t b=some y from hy] at hs
  exact hfit _ hs
 ·rw [h2]
  by_cases ht:t∈W
  ·rw [(ybt (W:=W)).1 ht];trivial
  ·rw [(ybt (W:=W)).2 ht]
   simp only [ybb,yas,hb t ht] at hs
   simp only [ybb,yas] at hs0
   rcases ya0 (t:=t) (r:=tabV (fun j=>a0.tmps.getD j undef) sz) (pre:=R) with ⟨x,h3,h4⟩|⟨_,h4⟩
   ·rw [h4] at hs
    have hx:=hR.mem _ (ya3 h3)
    cases hy:yab t base with
    |none=>rw [hy] at hx;exact hx.elim
    |some y=>
     rw [hy] at hx
     have hx':vS y=vS x:=hx
     exact vS_is.1 (hx'▸vS_is.2 (yje hk xs (ycn hsR h3) hs))
   ·rw [h4,tabV,yi8] at hs
    by_cases hts:t<sz
    ·rw [if_pos hts] at hs
     have hs':a.tmps.getD t undef=a0.tmps.getD t undef:=hs
     rw [hs']
     cases hy:yab t base with
     |none=>rw [hy] at hs0;exact hs0
     |some y=>rw [hy] at hs0;exact SV.is_mono hg hs0
    ·rw [hkey t hts];exact yre hf.size hts
def srcP (n:Nat) (q p:PV):Option (Option Nat):=match q with
 |.obj m=>(match eqb m n with
  |true=>(match p with|.obj i=>some (some i)|.v (.slice none 0 0)=>some none|_=>none)
  |false=>none)
 |.ptr m _=>(match eqb m n with
  |true=>(match p with|.ptr i _=>some (some i)|_=>none)
  |false=>none)
 |.sub m _ _ _=>(match eqb m n with
  |true=>(match p with|.sub i _ _ _=>some (some i)|_=>none)
  |false=>none)
 |_=>none
def yrj (n:Nat):List PV→List PV→Option (Option Nat)
 |q::qs,p::ps=>(match srcP n q p with|some r=>some r|none=>yrj n qs ps)
 |_,_=>none
def srcS (n:Nat) (x y:SV):Option (Option Nat):=match x with
 |.c (.one q)=>(match y with|.c (.one p)=>srcP n q p|_=>none)
 |.c (.agg qs)=>(match y with|.c (.agg ps)=>yrj n qs ps|_=>none)
 |.c (.fn _ qs)=>(match y with|.c (.fn _ ps)=>yrj n qs ps|_=>none)
 |_=>none
def srcV (n:Nat) (b:List (Nat×SV)):List (Nat×SV)→Option (Option Nat)
 |[]=>none
 |(t,x)::r=>(match yab t b with
  |some y=>(match srcS n x y with|some q=>some q|none=>srcV n b r)
  |none=>srcV n b r)
def srcE (n:Nat) (x y:En β):Option (Option Nat):=match x.ob with
 |.blk qs=>(match y.ob with|.blk ps=>yrj n qs ps|.bx ps=>yrj n qs ps|_=>none)
 |.bx qs=>(match y.ob with|.blk ps=>yrj n qs ps|.bx ps=>yrj n qs ps|_=>none)
 |_=>none
def srcLo (n:Nat):Nat→Mem β→Mem β→Option (Option Nat)
 |m+1,x::X,y::Y=>(match srcE n x y with|some q=>some q|none=>srcLo n m X Y)
 |_,_,_=>none
def srcHi (n:Nat) (mem:Mem β):Mem β→List (Option Nat)→Option (Option Nat)
 |x::X,some i::xs=>(match mem[i]? with
  |some y=>(match srcE n x y with|some q=>some q|none=>srcHi n mem X xs)
  |none=>srcHi n mem X xs)
 |_::X,none::xs=>srcHi n mem X xs
 |_,_=>none
def xs3 (V b:List (Nat×SV)) (mem X:Mem β) (k0:Nat):Nat→Nat→List (Option Nat)→List (Option Nat)
 |0,_,acc=>acc
 |m+1,n,acc=>match srcV n b V with
  |some q=>yaz (n+1) fun n1=>xs3 V b mem X k0 m n1 (acc++[q])
  |none=>(match srcLo n k0 X mem with
   |some q=>yaz (n+1) fun n1=>xs3 V b mem X k0 m n1 (acc++[q])
   |none=>(match srcHi n mem (X.drop k0) acc with
    |some q=>yaz (n+1) fun n1=>xs3 V b mem X k0 m n1 (acc++[q])
    |none=>yaz (n+1) fun n1=>xs3 V b mem X k0 m n1 (acc++[some n])))
def yii {α:Type}:List (Option Nat)→(List (Option Nat)→α)→α
 |[],k=>k []
 |none::r,k=>yii r fun r'=>k (none::r')
 |some i::r,k=>yaz i fun i'=>yii r fun r'=>k (some i'::r')
theorem yih {α:Type}:∀ (xs:List (Option Nat)) (k:List (Option Nat)→α),yii xs k=k xs
 |[],_=>rfl
 |none::r,k=>by simp only [yii];rw [yih r]
 |some i::r,k=>by simp only [yii,yak];rw [yih r]
def ysi (I:ObI β) (k0:Nat) (X:Mem β) (V:List (Nat×SV)) (s:SSt β):Option (List Prop):=
 yii (xs3 V s.base s.mem X k0 (X.length - k0) k0 []) fun xs=>andO (fitM I k0 xs s.mem X) (fitV k0 xs V s.base)
def Fit3 (I:ObI β) (k0:Nat) (X:Mem β) (V:List (Nat×SV)) (s:SSt β):Prop:=∃ ps,ysi I k0 X V s=some ps∧∀ p∈ps,p
theorem Fit3.ok {k0:Nat} {X:Mem β} {V:List (Nat×SV)} {s:SSt β} (h:Fit3 I k0 X V s) (hM:MemOk W0 G I w e s.mem):∃ xs,k0≤e.length∧MemOk W0 G I w (pEnv k0 e xs) X∧∀ p∈V,∃ y,yab p.1 s.base=some y∧∀ u,y.is e u→p.2.is (pEnv k0 e xs) u:=by
 obtain ⟨ps,h1,h2⟩:=h
 unfold ysi at h1
 rw [yih] at h1
 obtain ⟨⟨_,a1,a2⟩,_,b1,b2⟩:=ycq h1 h2
 obtain ⟨hk,hM'⟩:=hM.fit a1 a2
 exact ⟨_,hk,hM',yt9 hk b1 b2⟩
def RK3 (I:ObI β) (k0:Nat) (V:Nat→List (Nat×SV)) (M:Nat→Mem β) (N:Nat) (J:Nat→Prop) (U:Nat→SX→Option (List (Nat×SV)×Mem β)) (X:Nat→SX→Prop) (k:Nat) (x:SX) (s':SSt β):Prop:=match x with
 |.normal=>(k<N∧J (k+1))∧Fit3 I k0 (M (k+1)) (V (k+1)) s'
 |x=>match U k x with
  |some u=>X k x∧Fit3 I k0 u.2 u.1 s'
  |none=>False
def xSt3 (W:List Nat) (U:List (Nat×SV)) (X:Mem β) (s:SSt β):SSt β:=⟨U++yb9 W s.base,X,s.ver+1⟩
theorem ylv {W:List Nat} {U:List (Nat×SV)} {X:Mem β} {s:SSt β} (h:yf0 W U=true):After (·∈W) s (xSt3 W U X s):=by
 obtain ⟨pre,h1,h2⟩:=(yb2 (s:=s) h).suf
 exact ⟨⟨pre,h1,h2⟩,Nat.le_succ _,fun hv=>absurd hv (by simp [xSt3])⟩
def Rnd (P:Program) (I:ObI β) (W0:World) (G:Nat→Prop) (sz:Nat) (c:Code) (s:SSt β) (K:SX→SSt β→Prop):Prop:=∃ (S:Sy β) (L:Lps β) (m:Mem β),S.P=P∧SyOk S I W0 G∧LpsOk S I W0 G L sz c∧(∀ w e,MemOk W0 G I w e s.mem→MemOk W0 G I w e m)∧(symC S L sz c ⟨s.base,m,s.ver⟩).holds K
theorem yv3 {P:Program} {c:Code} {k0:Nat}
  {V:Nat→List (Nat×SV)} {M:Nat→Mem β} {R:List (Nat×SV)} {N:Nat} {Ux:Nat→SX→Option (List (Nat×SV)×Mem β)} {X:Nat→SX→Prop} {J:Nat→Prop}
  {s:SSt β} (hk0:s.mem.length=k0) (hsR:ycm k0 R=true) (hV:∀ k,yf0 (yah c) (V k)=true)
  (hJ:J 0) (hr:∀ k,k≤N→J k→∀ f,Rnd P I W0 G sz c ⟨V k++yb9 (yah c) (R++tabV f sz),M k,0⟩ (RK3 I k0 V M N J Ux X k))
  (h0:Fit3 I k0 (M 0) (V 0) s) (hR:FitL R s.base) (hkey:yv7 sz s.base=true) {K:SX→SSt β→Prop} (hTx:∀ k x U,k≤N→Ux k x=some U→X k x→K x (xSt3 (yah c) U.1 U.2 s))
  {Q:Exit→Act→World→Prop} {a:Act} {w:World} {e:Env} (hf:FrOk [] s.base e a sz) (hM:MemOk W0 G I w e s.mem)
  (hQ:∀ x s' e' a' w',Grows e e'→K x s'→FrOk [] s'.base e' a' sz→MemOk W0 G I w' e' s'.mem→Q x.exit' a' w'):(Code.loop c).wp P Q a w:=by
 have hel:e.length=k0:=by rw [← hk0];exact hM.len
 let f:Nat→Value:=fun j=>a.tmps.getD j undef
 have grow:∀ (e1 e2:Env) (xs:List (Option Nat)),k0≤e2.length→Grows e e1→Grows e1 e2→Grows e (pEnv k0 e2 xs):=fun e1 e2 xs hke hg1 hg2 i x hx=>by
  have hi:i<k0:=by rw [← hel];exact (zab.1 hx).1
  rw [yie hke _ hi]
  exact hg2 i x (hg1 i x hx)
 have nrm:∀ (V':List (Nat×SV)) (X':Mem β) (s':SSt β) (e1 e2:Env) (a2:Act) (w2:World),Fit3 I k0 X' V' s'→Grows e e1→Grows e1 e2→FrOk [] s'.base e2 a2 sz→MemOk W0 G I w2 e2 s'.mem→
   (∀ t,t ∉ yah c→yab t s'.base=yab t (R++tabV f sz))→
   ∃ e3,Grows e e3∧MemOk W0 G I w2 e3 X'∧FrOk [] (V'++yb9 (yah c) (R++tabV f sz)) e3 a2 sz∧FrOk [] (V'++yb9 (yah c) s.base) e3 a2 sz:=fun V' X' s' e1 e2 a2 w2 hfit hg1 hg2 hf2 hM2 hb=>by
  obtain ⟨xs,hke,hM3,hU⟩:=hfit.ok hM2
  have hg3:=grow e1 e2 xs hke hg1 hg2
  exact ⟨_,hg3,hM3,next_fr hke hf2 hU hsR hb,out_fr hke hf2 hU hsR hR (fun t ht=>yv6 hkey (by omega)) hf hg3 hb⟩
 have hbase:∀ (k:Nat) (ver:Nat) (m2:Mem β) (s':SSt β),After (·∈yah c) (⟨V k++yb9 (yah c) (R++tabV f sz),m2,ver⟩:SSt β) s'→∀ t,t ∉ yah c→yab t s'.base=yab t (R++tabV f sz):=fun k ver m2 s' haf t ht=>by
  obtain ⟨pre,hpre,hprew⟩:=haf.suf
  rw [hpre]
  rcases ya0 (t:=t) (r:=V k++yb9 (yah c) (R++tabV f sz)) (pre:=pre) with ⟨y,h1,_⟩|⟨_,h2⟩
  ·exact absurd (hprew _ (ya3 h1)) ht
  ·rw [h2]
   rcases ya0 (t:=t) (r:=yb9 (yah c) (R++tabV f sz)) (pre:=V k) with ⟨y,h1,_⟩|⟨_,h3⟩
   ·exact absurd (yew (hV k) _ (ya3 h1)) ht
   ·rw [h3];exact (ybt (W:=yah c)).2 ht
 have main:∀ m k,k+m=N→J k→∀ e' a' w',Grows e e'→FrOk [] (V k++yb9 (yah c) (R++tabV f sz)) e' a' sz→MemOk W0 G I w' e' (M k)→Code.rounds P c Q (m+1) a' w':=by
  intro m
  induction m with
  |zero=>
   intro k hk hJk e' a' w' hg hf' hM'
   rw [rounds_succ]
   obtain ⟨S,L,m2,hP,hS,hL,hm2,hrk⟩:=hr k (by omega) hJk f
   have hafter:=ybj c hL ⟨V k++yb9 (yah c) (R++tabV f sz),m2,0⟩
   rw [← hP]
   refine ya9 hS c hL (Tr.holds_all hrk hafter) hf' (hm2 _ _ hM') fun x s' e2 a2 w2 hg2 hK hf2 hM2=>?_
   obtain ⟨hK,haf⟩:=hK
   have hb:=hbase k 0 m2 s' haf
   cases x with
   |normal=>exact absurd hK.1.1 (by omega)
   |exit id=>
    simp only [RK3] at hK
    split at hK
    case h_2=>exact hK.elim
    rename_i U hU1
    obtain ⟨e3,g1,g2,_,g3⟩:=nrm U.1 U.2 s' e' e2 a2 w2 hK.2 hg hg2 hf2 hM2 hb
    exact hQ (.exit id) (xSt3 (yah c) U.1 U.2 s) e3 a2 w2 g1 (hTx k _ U (by omega) hU1 hK.1) g3 g2
   |ret=>
    simp only [RK3] at hK
    split at hK
    case h_2=>exact hK.elim
    rename_i U hU1
    obtain ⟨e3,g1,g2,_,g3⟩:=nrm U.1 U.2 s' e' e2 a2 w2 hK.2 hg hg2 hf2 hM2 hb
    exact hQ .ret (xSt3 (yah c) U.1 U.2 s) e3 a2 w2 g1 (hTx k _ U (by omega) hU1 hK.1) g3 g2
  |succ m ih=>
   intro k hk hJk e' a' w' hg hf' hM'
   rw [rounds_succ]
   obtain ⟨S,L,m2,hP,hS,hL,hm2,hrk⟩:=hr k (by omega) hJk f
   have hafter:=ybj c hL ⟨V k++yb9 (yah c) (R++tabV f sz),m2,0⟩
   rw [← hP]
   refine ya9 hS c hL (Tr.holds_all hrk hafter) hf' (hm2 _ _ hM') fun x s' e2 a2 w2 hg2 hK hf2 hM2=>?_
   obtain ⟨hK,haf⟩:=hK
   have hb:=hbase k 0 m2 s' haf
   cases x with
   |normal=>
    obtain ⟨⟨_,hJ1⟩,hn⟩:=hK
    obtain ⟨e3,g1,g2,g3,_⟩:=nrm (V (k+1)) (M (k+1)) s' e' e2 a2 w2 hn hg hg2 hf2 hM2 hb
    rw [hP]
    exact ih (k+1) (by omega) hJ1 e3 a2 w2 g1 g3 g2
   |exit id=>
    simp only [RK3] at hK
    split at hK
    case h_2=>exact hK.elim
    rename_i U hU1
    obtain ⟨e3,g1,g2,_,g3⟩:=nrm U.1 U.2 s' e' e2 a2 w2 hK.2 hg hg2 hf2 hM2 hb
    exact hQ (.exit id) (xSt3 (yah c) U.1 U.2 s) e3 a2 w2 g1 (hTx k _ U (by omega) hU1 hK.1) g3 g2
   |ret=>
    simp only [RK3] at hK
    split at hK
    case h_2=>exact hK.elim
    rename_i U hU1
    obtain ⟨e3,g1,g2,_,g3⟩:=nrm U.1 U.2 s' e' e2 a2 w2 hK.2 hg hg2 hf2 hM2 hb
    exact hQ .ret (xSt3 (yah c) U.1 U.2 s) e3 a2 w2 g1 (hTx k _ U (by omega) hU1 hK.1) g3 g2
 obtain ⟨xs,hke,hM3,hU⟩:=h0.ok hM
 exact wp_loop_rounds (N+1) (main N 0 (by omega) hJ _ a w (grow e e xs hke (Grows.refl e) (Grows.refl e)) (head_fr hke hf hU hsR hR) hM3)
def outT (W:List Nat) (s:SSt β):SmT β→Option (Tr β)
 |.leaf x U X=>(match yf0 W U with
  |true=>some (.leaf x ⟨U++yb9 W s.base,X,s.ver+1⟩)
  |false=>none)
 |.br b t e=>(match outT W s t,outT W s e with|some t,some e=>some (.br b t e)|_,_=>none)
 |.need ps t=>(match outT W s t with|some t=>some (.need ps t)|none=>none)
theorem ygk {W:List Nat} {s:SSt β}:∀ {t:SmT β} {t':Tr β},outT W s t=some t'→t'.all (After (·∈W) s)
 |.leaf x U X,t',h=>by
  simp only [outT] at h
  split at h
  ·rename_i hk
   simp only [Option.some.injEq] at h
   subst h
   exact ylv hk
  ·cases h
 |.br b t e,t',h=>by
  simp only [outT] at h
  split at h
  ·rename_i a c h1 h2
   simp only [Option.some.injEq] at h
   subst h
   exact ⟨ygk h1,ygk h2⟩
  ·cases h
 |.need ps t,t',h=>by
  simp only [outT] at h
  split at h
  ·rename_i a h1
   simp only [Option.some.injEq] at h
   subst h
   have:=ygk (t:=t) h1
   exact this
  ·cases h
theorem ygj {W:List Nat} {s:SSt β} {K:SX→SSt β→Prop}:∀ {t:SmT β} {t':Tr β},outT W s t=some t'→t'.holds K→t.holds fun x U X=>K x (xSt3 W U X s)
 |.leaf x U X,t',h,hK=>by
  simp only [outT] at h
  split at h
  ·simp only [Option.some.injEq] at h
   subst h
   exact hK
  ·cases h
 |.br b t e,t',h,hK=>by
  simp only [outT] at h
  split at h
  ·rename_i a c h1 h2
   simp only [Option.some.injEq] at h
   subst h
   exact ⟨fun hb=>ygj h1 (hK.1 hb),fun hb=>ygj h2 (hK.2 hb)⟩
  ·cases h
 |.need ps t,t',h,hK=>by
  simp only [outT] at h
  split at h
  ·rename_i a h1
   simp only [Option.some.injEq] at h
   subst h
   obtain ⟨k1,k2⟩:=hK
   exact ⟨k1,ygj (t:=t) h1 k2⟩
  ·cases h
def fitRo (p q:PV):Option (List Prop):=match q with
 |.obj n=>(match p with|.obj i=>(match eqb i n with|true=>some []|false=>none)|_=>none)
 |.ptr n d=>(match p with|.ptr i o=>(match eqb i n&&eqb o d with|true=>some []|false=>none)|_=>none)
 |.v x=>(match valP p with|some u=>some [u=x]|none=>none)
 |.kI k x=>(match valP p with|some u=>some [u=.int k x]|none=>none)
 |.kB x=>(match valP p with|some u=>some [u=.bool x]|none=>none)
 |.kS x=>(match valP p with|some u=>some [u=.string x]|none=>none)
 |_=>none
theorem vS_val {p:PV} {u:Value} (h:valP p=some u):vS (.c (.one p))=svV u:=by
 cases p<;>simp only [valP,Option.some.injEq,reduceCtorEq] at h
 all_goals subst h;rfl
theorem fitRo_is {p q:PV} {ps:List Prop} (h:fitRo p q=some ps) (hp:∀ x∈ps,x):vS (.c (.one p))=vS (.c (.one q)):=by
 unfold fitRo at h
 split at h
 ·split at h
  ·split at h
   ·rename_i he;rw [eqb_eq.1 he]
   ·cases h
  ·cases h
 ·split at h
  ·split at h
   ·rename_i he
    rw [zbs] at he
    rw [eqb_eq.1 he.1,eqb_eq.1 he.2]
   ·cases h
  ·cases h
 all_goals first
  |(split at h
    ·rename_i hv
     simp only [Option.some.injEq] at h
     subst h
     rw [vS_val hv,hp _ (zal ..)]
     rfl
    ·cases h)
  |cases h
def eqPs:List PV→List PV→Bool
 |[],[]=>true
 |.ptr i o::ps,.ptr j q::qs=>(eqb i j&&eqb o q)&&eqPs ps qs
 |.obj i::ps,.obj j::qs=>eqb i j&&eqPs ps qs
 |_,_=>false
theorem ysn:∀ {ps qs:List PV},eqPs ps qs=true→ps=qs
 |[],[],_=>rfl
 |[],_::_,h=>by simp [eqPs] at h
 |p::ps,[],h=>by cases p<;>simp [eqPs] at h
 |p::ps,q::qs,h=>by
  cases p<;>cases q<;>simp only [eqPs,zbs,Bool.false_eq_true,reduceCtorEq] at h
  ·rw [eqb_eq.1 h.1.1,eqb_eq.1 h.1.2,ysn h.2]
  ·rw [eqb_eq.1 h.1,ysn h.2]
def fitRl:List (Nat×SV)→List (Nat×SV)→Option (List Prop)
 |[],_=>some []
 |(t,x)::r,b=>(match yab t b with
  |some y=>(match x with
   |.c (.one q)=>(match y with
    |.c (.one p)=>andO (fitRo p q) (fitRl r b)
    |_=>none)
   |.c (.fn f qs)=>(match y with
    |.c (.fn g ps)=>(match eqb g f&&eqPs ps qs with
     |true=>fitRl r b
     |false=>none)
    |_=>none)
   |_=>none)
  |none=>none)
theorem yny {b:List (Nat×SV)}:∀ {R:List (Nat×SV)} {ps:List Prop},fitRl R b=some ps→(∀ p∈ps,p)→FitL R b
 |[],_,_,_=>trivial
 |(t,x)::r,ps,h,hp=>by
  simp only [fitRl] at h
  split at h
  ·rename_i y hy
   split at h
   ·split at h
    ·obtain ⟨⟨qs,h0,h1⟩,_,h2,h3⟩:=ycq h hp
     refine ⟨?_,yny h2 h3⟩
     rw [hy]
     exact fitRo_is h0 h1
    ·cases h
   ·split at h
    ·split at h
     ·rename_i he
      rw [zbs] at he
      refine ⟨?_,yny h hp⟩
      rw [hy,eqb_eq.1 he.1,ysn he.2]
      rfl
     ·cases h
    ·cases h
   ·cases h
  ·cases h
def lpG (I:ObI β) (sz:Nat) (c:Code) (k0:Nat) (V0 R:List (Nat×SV)) (M0:Mem β) (T:SmT β):SSt β→Option (Tr β):=fun s=>match (eqb s.mem.length k0&&yv7 sz s.base)&&ycm k0 R with
 |true=>(match andO (fitRl R s.base) (ysi I k0 M0 V0 s) with
  |some ps=>(match outT (yah c) s T with
   |some t=>some (.need ps t)
   |none=>none)
  |none=>none)
 |false=>none
theorem yt0 {c:Code} {k0:Nat} {V:Nat→List (Nat×SV)} {M:Nat→Mem β} {R:List (Nat×SV)} {N:Nat} {Ux:Nat→SX→Option (List (Nat×SV)×Mem β)} {X:Nat→SX→Prop} {J:Nat→Prop} {T:SmT β}
  (hV:∀ k,yf0 (yah c) (V k)=true) (hJ:J 0)
  (hr:∀ k,k≤N→J k→∀ f,Rnd S.P I W0 G sz c ⟨V k++yb9 (yah c) (R++tabV f sz),M k,0⟩ (RK3 I k0 V M N J Ux X k))
  (hTx:∀ K,T.holds K→∀ k x U,k≤N→Ux k x=some U→X k x→K x U.1 U.2):ycr S I W0 G sz c (lpG I sz c k0 (V 0) R (M 0) T):=by
 intro s t ht
 unfold lpG at ht
 split at ht
 case h_2=>cases ht
 rename_i hb
 simp only [zbs] at hb
 obtain ⟨hb1,hb3⟩:=hb
 split at ht
 case h_2=>cases ht
 rename_i ps hps
 split at ht
 case h_2=>cases ht
 rename_i t' hT
 simp only [Option.some.injEq] at ht
 subst ht
 have haf:=ygk (t:=T) hT
 refine ⟨haf,fun K hK Q a w e hf hM hQ=>?_⟩
 obtain ⟨hK1,hK2⟩:=hK
 have hK3:=ygj hT hK2
 obtain ⟨⟨_,r1,r2⟩,qs,f1,f2⟩:=ycq hps hK1
 exact yv3 (eqb_eq.1 hb1.1) hb3 hV hJ hr
  ⟨qs,f1,f2⟩ (yny r1 r2) hb1.2 (fun k x U hk hU hX=>hTx _ hK3 k x U hk hU hX) hf hM hQ
def Tr.al:Tr β→List Bool→Option (List Prop×SX×SSt β)
 |.leaf x s,[]=>some ([],x,s)
 |.leaf _ _,_::_=>none
 |.br _ _ _,[]=>none
 |.br b t e,c::cs=>(match c with
  |true=>(match t.al cs with|some (ps,r)=>some ((b=true)::ps,r)|none=>none)
  |false=>(match e.al cs with|some (ps,r)=>some ((b=false)::ps,r)|none=>none))
 |.need ps t,cs=>(match t.al cs with|some (qs,r)=>some (ps++qs,r)|none=>none)
 |.fail,_=>none
theorem Tr.al_holds {K:SX→SSt β→Prop}:∀ {t:Tr β} {cs:List Bool} {ps:List Prop} {x:SX} {s:SSt β},t.al cs=some (ps,x,s)→(∀ p∈ps,p)→K x s→t.holds K
 |.leaf x0 s0,[],ps,x,s,h,_,hk=>by
  simp only [Tr.al,Option.some.injEq,Prod.mk.injEq] at h
  obtain ⟨_,rfl,rfl⟩:=h
  exact hk
 |.leaf _ _,_::_,_,_,_,h,_,_=>by simp [Tr.al] at h
 |.br _ _ _,[],_,_,_,h,_,_=>by simp [Tr.al] at h
 |.br b t e,c::cs,ps,x,s,h,hp,hk=>by
  simp only [Tr.al] at h
  split at h
  ·split at h
   ·rename_i qs r hr
    simp only [Option.some.injEq,Prod.mk.injEq] at h
    obtain ⟨rfl,rfl⟩:=h
    have hb:b=true:=hp _ (zal ..)
    subst hb
    exact ⟨fun _=>al_holds hr (fun p hq=>hp p (zak _ hq)) hk,fun h=>by cases h⟩
   ·cases h
  ·split at h
   ·rename_i qs r hr
    simp only [Option.some.injEq,Prod.mk.injEq] at h
    obtain ⟨rfl,rfl⟩:=h
    have hb:b=false:=hp _ (zal ..)
    subst hb
    exact ⟨(fun h=>by cases h),fun _=>al_holds hr (fun p hq=>hp p (zak _ hq)) hk⟩
   ·cases h
 |.need ps0 t,cs,ps,x,s,h,hp,hk=>by
  simp only [Tr.al] at h
  split at h
  ·rename_i qs r hr
   simp only [Option.some.injEq,Prod.mk.injEq] at h
   obtain ⟨rfl,rfl⟩:=h
   exact ⟨fun p hq=>hp p (zah _ hq),al_holds (t:=t) hr (fun p hq=>hp p (zag _ hq)) hk⟩
  ·cases h
 |.fail,_,_,_,_,h,_,_=>by simp [Tr.al] at h
def alN (I:ObI β) (k0:Nat) (Vn:List (Nat×SV)) (Mn:Mem β) (r:Option (List Prop×SX×SSt β)):Option (List Prop):=match r with
 |some (ps,.normal,s')=>(match ysi I k0 Mn Vn s' with|some qs=>some (ps++qs)|none=>none)
 |_=>none
def alX (I:ObI β) (k0:Nat) (id:Nat) (Vn:List (Nat×SV)) (Mn:Mem β) (r:Option (List Prop×SX×SSt β)):Option (List Prop):=match r with
 |some (ps,.exit i,s')=>(match eqb i id,ysi I k0 Mn Vn s' with|true,some qs=>some (ps++qs)|_,_=>none)
 |_=>none
theorem rnd_n {P:Program} {c:Code} {k0:Nat} {V:Nat→List (Nat×SV)} {M:Nat→Mem β} {N:Nat} {Ux:Nat→SX→Option (List (Nat×SV)×Mem β)} {X:Nat→SX→Prop} {J:Nat→Prop} {k:Nat} {s:SSt β} (S:Sy β) (L:Lps β) (hP:S.P=P) (hS:SyOk S I W0 G) (hL:LpsOk S I W0 G L sz c) {m2:Mem β} (hm2:∀ w e,MemOk W0 G I w e s.mem→MemOk W0 G I w e m2)
  (cs:List Bool) {Vn:List (Nat×SV)} {Mn:Mem β} (ps:List Prop) (h:alN I k0 Vn Mn ((symC S L sz c ⟨s.base,m2,s.ver⟩).al cs)=some ps) (hp:∀ p∈ps,p) (hV:V (k+1)=Vn) (hM:M (k+1)=Mn) (hk:k<N) (hJ:J (k+1)):Rnd P I W0 G sz c s (RK3 I k0 V M N J Ux X k):=by
 refine ⟨S,L,m2,hP,hS,hL,hm2,?_⟩
 unfold alN at h
 split at h
 ·rename_i qs s' hr
  split at h
  ·rename_i rs hrs
   simp only [Option.some.injEq] at h
   subst h
   refine Tr.al_holds hr (fun p hq=>hp p (zah _ hq)) ⟨⟨hk,hJ⟩,rs,by rw [hV,hM];exact hrs,fun p hq=>hp p (zag _ hq)⟩
  ·cases h
 ·cases h
theorem rnd_x {P:Program} {c:Code} {k0:Nat} {V:Nat→List (Nat×SV)} {M:Nat→Mem β} {N:Nat} {Ux:Nat→SX→Option (List (Nat×SV)×Mem β)} {X:Nat→SX→Prop} {J:Nat→Prop} {k:Nat} {s:SSt β} (S:Sy β) (L:Lps β) (hP:S.P=P) (hS:SyOk S I W0 G) (hL:LpsOk S I W0 G L sz c) {m2:Mem β} (hm2:∀ w e,MemOk W0 G I w e s.mem→MemOk W0 G I w e m2)
  (cs:List Bool) (id:Nat) {Vn:List (Nat×SV)} {Mn:Mem β} (ps:List Prop) (h:alX I k0 id Vn Mn ((symC S L sz c ⟨s.base,m2,s.ver⟩).al cs)=some ps) (hp:∀ p∈ps,p) (hU:Ux k (.exit id)=some (Vn,Mn)) (hX:X k (.exit id)):Rnd P I W0 G sz c s (RK3 I k0 V M N J Ux X k):=by
 refine ⟨S,L,m2,hP,hS,hL,hm2,?_⟩
 unfold alX at h
 split at h
 ·rename_i qs i s' hr
  split at h
  ·rename_i rs he hrs
   simp only [Option.some.injEq] at h
   subst h
   have he:=eqb_eq.1 he
   subst he
   refine Tr.al_holds hr (fun p hq=>hp p (zah _ hq)) ?_
   simp only [RK3,hU]
   exact ⟨hX,rs,hrs,fun p hq=>hp p (zag _ hq)⟩
  ·cases h
 ·cases h
end
end Go.Proofs.Ytiiekgcjilelpaa
