/- T15. -/
import Derived.Test.YtiiekgcjilelpaaE4p
set_option linter.unusedSimpArgs false
set_option linter.unusedVariables false
namespace Go.Proofs.Ytiiekgcjilelpaa
open Go.RowKit
section
variable {β:Type} {S:Sy β} {I:ObI β} {W0:World} {G:Nat→Prop} {L:Lps β} {sz:Nat} {w w':World} {e e':Env} {mem:Mem β}
def andO:Option (List Prop)→Option (List Prop)→Option (List Prop)
 |some ps,some qs=>some (ps++qs)
 |_,_=>none
theorem andO_some {a b:Option (List Prop)} {ps:List Prop} (h:andO a b=some ps) (hp:∀ p∈ps,p):(∃ qs,a=some qs∧∀ p∈qs,p)∧∃ qs,b=some qs∧∀ p∈qs,p:=by
 unfold andO at h
 split at h
 ·simp only [Option.some.injEq] at h
  subst h
  exact ⟨⟨_,rfl,fun p hq=>hp p (List.mem_append_left _ hq)⟩,_,rfl,fun p hq=>hp p (List.mem_append_right _ hq)⟩
 ·cases h
def fitPo (k0:Nat) (xs:List (Option Nat)) (p q:PV):Option (List Prop):=match q with
 |.any=>some []
 |.obj n=>(match p with
  |.obj i=>(match fitI k0 xs i n with|true=>some []|false=>none)
  |.v (.slice none 0 0)=>(match fitN k0 xs n with|true=>some []|false=>none)
  |_=>none)
 |.ptr n d=>(match p with
  |.ptr i o=>(match fitI k0 xs i n&&eqb o d with|true=>some []|false=>none)
  |_=>none)
 |.elt _ _ _ _=>none
 |.sub n s l h=>(match p with
  |.sub i s' l' h'=>(match fitI k0 xs i n with|true=>some [s=s'∧l=l'∧h=h']|false=>none)
  |_=>none)
 |.win _ _ _ _ _ _=>none
 |.v x=>(match valP p with|some u=>some [u=x]|none=>none)
 |.kI k x=>(match valP p with|some u=>some [u=.int k x]|none=>none)
 |.kB x=>(match valP p with|some u=>some [u=.bool x]|none=>none)
 |.kS x=>(match valP p with|some u=>some [u=.string x]|none=>none)
theorem fitPo_is {k0:Nat} (hk:k0≤e.length) {xs:List (Option Nat)} {p q:PV} {ps:List Prop} (h:fitPo k0 xs p q=some ps) (hp:∀ p∈ps,p) {u:Value} (hu:p.is e u):q.is (pEnv k0 e xs) u:=by
 unfold fitPo at h
 split at h
 ·trivial
 ·rename_i n
  split at h
  ·split at h
   ·rename_i hb;exact fitI_is hk hb hu
   ·cases h
  ·split at h
   ·rename_i hb
    unfold fitN at hb
    rw [Bool.and_eq_true] at hb
    have h1:=leb_le.1 hb.1
    have h2:=hb.2
    split at h2
    ·rename_i hj
     obtain ⟨q,rfl⟩:∃ q,n=k0+q:=⟨n - k0,by omega⟩
     rw [show k0+q - k0=q by omega] at hj
     have hu':u=.slice none 0 0:=hu
     show (pEnv k0 e xs)[k0+q]? =some u
     rw [pEnv_hi hk,hj,hu']
     simp [evOf,nilV]
    ·cases h2
   ·cases h
  ·cases h
 ·split at h
  ·split at h
   ·rename_i hb
    rw [Bool.and_eq_true] at hb
    have h2:=eqb_eq.1 hb.2
    subst h2
    obtain ⟨b,o,h1,rfl⟩:=hu
    exact ⟨b,o,fitI_is hk hb.1 h1,rfl⟩
   ·cases h
  ·cases h
 ·cases h
 ·split at h
  ·split at h
   ·rename_i hb
    simp only [Option.some.injEq] at h
    subst h
    obtain ⟨rfl,rfl,rfl⟩:=hp _ (List.mem_cons_self ..)
    obtain ⟨ao,n,c,h1,h2⟩:=hu
    exact ⟨ao,n,c,fitI_is hk hb h1,h2⟩
   ·cases h
  ·cases h
 ·cases h
 all_goals
  split at h
  ·rename_i v hv
   simp only [Option.some.injEq] at h
   subst h
   have h1:=hp _ (List.mem_cons_self ..)
   have h2:=valP_is hv hu
   show u=_
   rw [h2];exact h1
  ·cases h
def fitCs (k0:Nat) (xs:List (Option Nat)):List PV→List PV→Option (List Prop)
 |[],[]=>some []
 |p::ps,q::qs=>andO (fitPo k0 xs p q) (fitCs k0 xs ps qs)
 |_,_=>none
theorem fitCs_get {k0:Nat} (hk:k0≤e.length) {xs:List (Option Nat)}:∀ {ps qs:List PV} {Ps:List Prop},fitCs k0 xs ps qs=some Ps→(∀ p∈Ps,p)→∀ (j:Nat) (q:PV),qs[j]? =some q→∃ p,ps[j]? =some p∧∀ u,p.is e u→q.is (pEnv k0 e xs) u
 |[],[],_,_,_,j,q,hq=>by simp at hq
 |p::ps,q::qs,Ps,h,hp,j,q',hq=>by
  simp only [fitCs] at h
  obtain ⟨⟨_,h0,h1⟩,_,h2,h3⟩:=andO_some h hp
  cases j with
  |zero=>simp at hq;subst hq;exact ⟨p,rfl,fun u hu=>fitPo_is hk h0 h1 hu⟩
  |succ j=>exact fitCs_get hk h2 h3 j q' (by simpa using hq)
 |[],_::_,_,h,_,_,_,_=>by simp [fitCs] at h
 |_::_,[],_,h,_,_,_,_=>by simp [fitCs] at h
theorem fitCs_all {k0:Nat} (hk:k0≤e.length) {xs:List (Option Nat)}:∀ {ps qs:List PV} {Ps:List Prop},fitCs k0 xs ps qs=some Ps→(∀ p∈Ps,p)→∀ {us:List Value},AllIs e ps us→AllIs (pEnv k0 e xs) qs us
 |[],[],_,_,_,us,hu=>by cases us<;>exact hu
 |p::ps,q::qs,Ps,h,hp,us,hu=>by
  simp only [fitCs] at h
  obtain ⟨⟨_,h0,h1⟩,_,h2,h3⟩:=andO_some h hp
  cases us with
  |nil=>exact hu.elim
  |cons u us=>exact ⟨fitPo_is hk h0 h1 hu.1,fitCs_all hk h2 h3 hu.2⟩
 |[],_::_,_,h,_,_,_=>by simp [fitCs] at h
 |_::_,[],_,h,_,_,_=>by simp [fitCs] at h
def FitKS (k0:Nat) (xs:List (Option Nat)) (K K':KS):Prop:=K.sz=K'.sz∧K.n=K'.n∧∀ i,i<K.n→∃ ps,fitCs k0 xs (K.cells i) (K'.cells i)=some ps∧∀ p∈ps,p
def fitOb (k0:Nat) (xs:List (Option Nat)) (o n:Ob β):Option (List Prop):=match n with
 |.dead=>some []
 |.blk ds=>(match o with|.blk cs=>fitCs k0 xs cs ds|.bx cs=>fitCs k0 xs cs ds|_=>none)
 |.bx ds=>(match o with|.blk cs=>fitCs k0 xs cs ds|.bx cs=>fitCs k0 xs cs ds|_=>none)
 |.us c=>(match o with|.us b=>some [b=c]|_=>none)
 |.sl K' _=>(match o with|.sl K _=>some [FitKS k0 xs K K']|_=>none)
def muB (o n:En β):Bool:=match n.mu with
 |true=>o.mu
 |false=>true
def isDead (n:En β):Bool:=match n.ob with
 |.dead=>true
 |_=>false
def fitEn (k0:Nat) (xs:List (Option Nat)) (o n:En β):Option (List Prop):=match isDead n with
 |true=>some []
 |false=>(match muB o n with
  |true=>fitOb k0 xs o.ob n.ob
  |false=>none)
def nilEn (I:ObI β) (n:En β):Option (List Prop):=match n.ob with
 |.dead=>some []
 |.us b=>some [∀ w,I.holds b w nilV∧∀ j,¬ I.foot b w nilV j]
 |.sl K _=>some [K.n=0]
 |.blk _=>none
 |.bx _=>none
theorem fitEn_is {k0:Nat} (hk:k0≤e.length) {xs:List (Option Nat)} {o n:En β} {ps:List Prop} (h:fitEn k0 xs o n=some ps) (hp:∀ p∈ps,p) {u:Value} (hu:Holds I e w u o.mu o.ob):
  Holds I (pEnv k0 e xs) w u n.mu n.ob∧(∀ k,Foot I w u n.ob k→Foot I w u o.ob k)∧(∀ k,Own I w u n.ob k→Own I w u o.ob k)∧(isDead n=false→n.mu=true→o.mu=true):=by
 unfold fitEn at h
 split at h
 ·rename_i hd
  obtain ⟨ob,mu⟩:=n
  cases ob<;>simp only [isDead,Bool.false_eq_true] at hd
  exact ⟨hu.oneCell,fun k hk=>hk.elim,fun k hk=>hk.elim,fun h=>by simp [isDead] at h⟩
 ·split at h
  ·rename_i hmu
   have hmu':n.mu=true→o.mu=true:=fun hm=>by unfold muB at hmu;rw [hm] at hmu;exact hmu
   obtain ⟨nob,nmu⟩:=n
   obtain ⟨oob,omu⟩:=o
   simp only at h hu hmu' ⊢
   unfold fitOb at h
   split at h
   ·simp_all [isDead]
   ·split at h
    ·rename_i cs
     obtain ⟨b,o,rfl,hc⟩:=hu
     refine ⟨⟨b,o,rfl,fun j q hq=>?_⟩,fun k hk=>hk,fun k hk=>hk,fun _=>hmu'⟩
     obtain ⟨p,hp1,hp2⟩:=fitCs_get hk h hp j q hq
     obtain ⟨x,g1,g2,g3⟩:=hc j p hp1
     exact ⟨x,g1,hp2 x g2,fun hm=>g3 (hmu' hm)⟩
    ·rename_i cs
     obtain ⟨b,o,rfl,hc⟩:=hu
     refine ⟨⟨b,o,rfl,fun j q hq=>?_⟩,fun k hk=>hk,fun k hk=>hk,fun _=>hmu'⟩
     obtain ⟨p,hp1,hp2⟩:=fitCs_get hk h hp j q hq
     obtain ⟨x,g1,g2,g3⟩:=hc j p hp1
     exact ⟨x,g1,hp2 x g2,fun hm=>g3 (hmu' hm)⟩
    ·cases h
   ·split at h
    ·rename_i cs
     obtain ⟨b,o,rfl,hc⟩:=hu
     refine ⟨⟨b,o,rfl,fun j q hq=>?_⟩,fun k hk=>hk,fun k hk=>hk,fun _=>hmu'⟩
     obtain ⟨p,hp1,hp2⟩:=fitCs_get hk h hp j q hq
     obtain ⟨x,g1,g2,g3⟩:=hc j p hp1
     exact ⟨x,g1,hp2 x g2,fun hm=>g3 (hmu' hm)⟩
    ·rename_i cs
     obtain ⟨b,o,rfl,hc⟩:=hu
     refine ⟨⟨b,o,rfl,fun j q hq=>?_⟩,fun k hk=>hk,fun k hk=>hk,fun _=>hmu'⟩
     obtain ⟨p,hp1,hp2⟩:=fitCs_get hk h hp j q hq
     obtain ⟨x,g1,g2,g3⟩:=hc j p hp1
     exact ⟨x,g1,hp2 x g2,fun hm=>g3 (hmu' hm)⟩
    ·cases h
   ·split at h
    ·simp only [Option.some.injEq] at h
     subst h
     have:=hp _ (List.mem_cons_self ..)
     subst this
     exact ⟨hu,fun k hk=>hk,fun k hk=>hk,fun _=>hmu'⟩
    ·cases h
   ·split at h
    ·simp only [Option.some.injEq] at h
     subst h
     obtain ⟨q1,q2,q3⟩:=hp _ (List.mem_cons_self ..)
     obtain ⟨ao,cap,rfl,g1,g2,g3,g4⟩:=hu
     refine ⟨⟨ao,cap,by rw [q2],by rw [← q2];exact g1,g2,g3,fun a ha=>⟨by rw [← q2];exact (g4 a ha).1,fun i hi j q hq=>?_⟩⟩,(fun k hk=>⟨by rw [q2];exact hk.1,hk.2⟩),(fun k hk=>⟨by rw [q2];exact hk.1,hk.2⟩),fun _=>hmu'⟩
     rw [← q2] at hi
     obtain ⟨ps,h1,h2⟩:=q3 i hi
     obtain ⟨p,hp1,hp2⟩:=fitCs_get hk h1 h2 j q hq
     obtain ⟨x,f1,f2⟩:=(g4 a ha).2 i hi j p hp1
     exact ⟨x,by rw [← q1];exact f1,hp2 x f2⟩
    ·cases h
  ·cases h
theorem nilEn_is {n:En β} {ps:List Prop} (h:nilEn I n=some ps) (hp:∀ p∈ps,p) (e:Env) (w:World):Holds I e w nilV n.mu n.ob∧∀ k,¬ Foot I w nilV n.ob k:=by
 obtain ⟨ob,mu⟩:=n
 unfold nilEn at h
 cases ob with
 |dead=>exact ⟨rfl,fun k hk=>hk⟩
 |us b=>
  simp only [Option.some.injEq] at h
  subst h
  exact hp _ (List.mem_cons_self ..) w
 |sl K b=>
  simp only [Option.some.injEq] at h
  subst h
  have h0:K.n=0:=hp _ (List.mem_cons_self ..)
  exact ⟨⟨none,0,by rw [h0];rfl,by omega,by omega,(fun _=>rfl),fun a ha=>by cases ha⟩,fun k hk=>hk.1 h0⟩
 |blk c=>simp at h
 |bx c=>simp at h
def fitLo (k0:Nat) (xs:List (Option Nat)):Nat→Mem β→Mem β→Option (List Prop)
 |0,_,_=>some []
 |m+1,o::os,n::ns=>andO (fitEn k0 xs o n) (fitLo k0 xs m os ns)
 |_,_,_=>none
def deadAt (X:Mem β) (i:Nat):Bool:=match X[i]? with
 |some n=>isDead n
 |none=>false
def roAt (X:Mem β) (i:Nat):Bool:=match X[i]? with
 |some n=>!n.mu
 |none=>false
def fitHi (I:ObI β) (k0:Nat) (xs:List (Option Nat)) (mem X:Mem β):List (Option Nat)→Mem β→Option (List Prop)
 |[],[]=>some []
 |some i::ys,n::ns=>(match mem[i]?,leb k0 i||(deadAt X i||(!n.mu&&roAt X i)) with
  |some o,true=>andO (fitEn k0 xs o n) (fitHi I k0 xs mem X ys ns)
  |_,_=>none)
 |none::ys,n::ns=>andO (nilEn I n) (fitHi I k0 xs mem X ys ns)
 |_,_=>none
def fitM (I:ObI β) (k0:Nat) (xs:List (Option Nat)) (mem X:Mem β):Option (List Prop):=match distB xs&&leb k0 mem.length with
 |true=>andO (fitLo k0 xs k0 mem X) (fitHi I k0 xs mem X xs (X.drop k0))
 |false=>none
theorem fitLo_get {k0:Nat} {xs:List (Option Nat)}:∀ {m:Nat} {os ns:Mem β} {ps:List Prop},fitLo k0 xs m os ns=some ps→(∀ p∈ps,p)→m≤ns.length∧∀ (i:Nat) (n:En β),i<m→ns[i]? =some n→∃ (o:En β) (qs:List Prop),os[i]? =some o∧fitEn k0 xs o n=some qs∧∀ p∈qs,p
 |0,_,_,_,_,_=>⟨Nat.zero_le _,fun i n h=>by omega⟩
 |m+1,o::os,n::ns,ps,h,hp=>by
  simp only [fitLo] at h
  obtain ⟨⟨qs,h0,h1⟩,_,h2,h3⟩:=andO_some h hp
  obtain ⟨g1,g2⟩:=fitLo_get h2 h3
  refine ⟨by simpa using g1,fun i n' hi hn=>?_⟩
  cases i with
  |zero=>simp at hn;subst hn;exact ⟨o,qs,rfl,h0,h1⟩
  |succ i=>simpa using g2 i n' (by omega) (by simpa using hn)
 |m+1,[],_,_,h,_=>by simp [fitLo] at h
 |m+1,_::_,[],_,h,_=>by simp [fitLo] at h
theorem fitHi_get {k0:Nat} {xs:List (Option Nat)} {mem X:Mem β}:∀ {ys:List (Option Nat)} {ns:Mem β} {ps:List Prop},fitHi I k0 xs mem X ys ns=some ps→(∀ p∈ps,p)→ys.length=ns.length∧∀ (j:Nat) (n:En β),ns[j]? =some n→
  (∃ (i:Nat) (o:En β) (qs:List Prop),ys[j]? =some (some i)∧mem[i]? =some o∧(k0≤i∨deadAt X i=true∨n.mu=false∧roAt X i=true)∧fitEn k0 xs o n=some qs∧∀ p∈qs,p)∨(ys[j]? =some none∧∃ qs,nilEn I n=some qs∧∀ p∈qs,p)
 |[],[],_,_,_=>⟨rfl,fun j n h=>by simp at h⟩
 |some i::ys,n::ns,ps,h,hp=>by
  simp only [fitHi] at h
  split at h
  ·rename_i o ho hb
   obtain ⟨⟨qs,h0,h1⟩,_,h2,h3⟩:=andO_some h hp
   obtain ⟨g1,g2⟩:=fitHi_get h2 h3
   refine ⟨by simp [g1],fun j n' hn=>?_⟩
   cases j with
   |zero=>
    simp at hn
    subst hn
    refine .inl ⟨i,o,qs,rfl,ho,?_,h0,h1⟩
    rw [Bool.or_eq_true,Bool.or_eq_true,Bool.and_eq_true,Bool.not_eq_true'] at hb
    exact hb.imp leb_le.1 id
   |succ j=>simpa using g2 j n' (by simpa using hn)
  ·cases h
 |none::ys,n::ns,ps,h,hp=>by
  simp only [fitHi] at h
  obtain ⟨⟨qs,h0,h1⟩,_,h2,h3⟩:=andO_some h hp
  obtain ⟨g1,g2⟩:=fitHi_get h2 h3
  refine ⟨by simp [g1],fun j n' hn=>?_⟩
  cases j with
  |zero=>simp at hn;subst hn;exact .inr ⟨rfl,qs,h0,h1⟩
  |succ j=>simpa using g2 j n' (by simpa using hn)
 |[],_::_,_,h,_=>by simp [fitHi] at h
 |some _::_,[],_,h,_=>by simp [fitHi] at h
 |none::_,[],_,h,_=>by simp [fitHi] at h
theorem MemOk.fit (hM:MemOk W0 G I w e mem) {k0:Nat} {xs:List (Option Nat)} {X:Mem β} {ps:List Prop} (h:fitM I k0 xs mem X=some ps) (hp:∀ p∈ps,p):k0≤e.length∧MemOk W0 G I w (pEnv k0 e xs) X:=by
 unfold fitM at h
 split at h
 case h_2=>cases h
 rename_i hb
 rw [Bool.and_eq_true] at hb
 have hd:=distB_iff hb.1
 have hk:k0≤e.length:=by rw [hM.len];exact leb_le.1 hb.2
 obtain ⟨⟨_,l1,l2⟩,_,r1,r2⟩:=andO_some h hp
 obtain ⟨l3,l4⟩:=fitLo_get l1 l2
 obtain ⟨r3,r4⟩:=fitHi_get r1 r2
 refine ⟨hk,?_⟩
 have hXl:X.length=k0+xs.length:=by rw [List.length_drop] at r3;omega
 -- what stands behind each
 have hget:∀ (n:Nat) (u:Value) (m:En β),(pEnv k0 e xs)[n]? =some u→X[n]? =some m→
   (∃ i o,((n<k0∧i=n)∨(k0≤n∧xs[n - k0]? =some (some i)∧(k0≤i∨deadAt X i=true∨m.mu=false∧roAt X i=true)))∧e[i]? =some u∧mem[i]? =some o∧∃ qs,fitEn k0 xs o m=some qs∧∀ p∈qs,p)∨(u=nilV∧∃ qs,nilEn I m=some qs∧∀ p∈qs,p):=fun n u m hu hm=>by
  rcases Nat.lt_or_ge n k0 with hn|hn
  ·rw [pEnv_lo hk xs hn] at hu
   obtain ⟨o,qs,h1,h2⟩:=l4 n m hn hm
   exact .inl ⟨n,o,.inl ⟨hn,rfl⟩,hu,h1,qs,h2⟩
  ·obtain ⟨j,rfl⟩:∃ j,n=k0+j:=⟨n - k0,by omega⟩
   rw [pEnv_hi hk] at hu
   rcases r4 j m (by rw [List.getElem?_drop];exact hm) with ⟨i,o,qs,h1,h2,h3,h4⟩|⟨h1,h2⟩
   ·rw [h1] at hu
    simp only [Option.map_some,Option.some.injEq] at hu
    have hl:i<e.length:=by rw [hM.len];exact (List.getElem?_eq_some_iff.1 h2).1
    simp only [evOf,List.getElem?_eq_getElem hl] at hu
    exact .inl ⟨i,o,.inr ⟨hn,by rw [show k0+j - k0=j by omega];exact h1,h3⟩,by rw [List.getElem?_eq_getElem hl,hu],h2,qs,h4⟩
   ·rw [h1] at hu
    simp only [Option.map_some,Option.some.injEq] at hu
    exact .inr ⟨hu.symm,h2⟩
 have dead:∀ (n:Nat) (m:En β),X[n]? =some m→deadAt X n=true→isDead m=true:=fun n m hm hd=>by
  unfold deadAt at hd
  rw [hm] at hd
  exact hd
 have nofoot:∀ (m:En β) (u:Value) (k:Nat),isDead m=true→¬ Foot I w u m.ob k:=fun m u k hd hf=>by
  obtain ⟨ob,mu⟩:=m
  cases ob<;>simp only [isDead,Bool.false_eq_true] at hd
  exact hf
 refine ⟨by rw [pEnv_len hk,hXl],fun n u m hu hm=>?_,fun n u m hu hm k hk'=>?_,fun n u m hu hm hmu k hk'=>?_,fun n1 n2 u1 u2 m1 m2 hu1 hm1 hmu hu2 hm2 hne k hk1 hk2=>?_,hM.mod,fun n u m hu hm k hk'=>?_⟩
 ·rcases hget n u m hu hm with ⟨i,o,_,h1,h2,qs,h3,h4⟩|⟨rfl,qs,h1,h2⟩
  ·exact (fitEn_is hk h3 h4 (hM.holds i u o h1 h2)).1
  ·exact (nilEn_is h1 h2 _ w).1
 ·rcases hget n u m hu hm with ⟨i,o,_,h1,h2,qs,h3,h4⟩|⟨rfl,qs,h1,h2⟩
  ·exact hM.lt i u o h1 h2 k ((fitEn_is hk h3 h4 (hM.holds i u o h1 h2)).2.1 k hk')
  ·exact absurd hk' ((nilEn_is h1 h2 e w).2 k)
 ·rcases hget n u m hu hm with ⟨i,o,_,h1,h2,qs,h3,h4⟩|⟨rfl,qs,h1,h2⟩
  ·obtain ⟨_,_,g2,g3⟩:=fitEn_is hk h3 h4 (hM.holds i u o h1 h2)
   cases hdd:isDead m with
   |true=>exact absurd hk'.foot (nofoot m u k hdd)
   |false=>exact hM.own i u o h1 h2 (g3 hdd hmu) k (g2 k hk')
  ·exact absurd hk'.foot ((nilEn_is h1 h2 e w).2 k)
 ·cases hd1:isDead m1 with
  |true=>exact nofoot m1 u1 k hd1 hk1.foot
  |false=>
   cases hd2:isDead m2 with
   |true=>exact nofoot m2 u2 k hd2 hk2
   |false=>
    rcases hget n1 u1 m1 hu1 hm1 with ⟨i,o,s1,h1,h2,qs,h3,h4⟩|⟨rfl,qs,h1,h2⟩
    ·rcases hget n2 u2 m2 hu2 hm2 with ⟨i',o',s2,h1',h2',qs',h3',h4'⟩|⟨rfl,qs,h1',h2'⟩
     ·obtain ⟨_,_,g2,g3⟩:=fitEn_is hk h3 h4 (hM.holds i u1 o h1 h2)
      obtain ⟨_,f2,_,f3⟩:=fitEn_is hk h3' h4' (hM.holds i' u2 o' h1' h2')
      refine hM.sep i i' u1 u2 o o' h1 h2 (g3 hd1 hmu) h1' h2' (fun he=>?_) k (g2 k hk1) (f2 k hk2)
      subst he
      rcases s1 with ⟨a1,rfl⟩|⟨a1,a2,a3⟩
      ·rcases s2 with ⟨b1,b2⟩|⟨b1,b2,b3⟩
       ·exact hne b2
       ·rcases b3 with b3|b3|⟨_,b3⟩
        ·omega
        ·rw [dead _ m1 hm1 b3] at hd1;cases hd1
        ·unfold roAt at b3
         rw [hm1] at b3
         simp only [hmu] at b3
         cases b3
      ·rcases s2 with ⟨b1,rfl⟩|⟨b1,b2,b3⟩
       ·rcases a3 with a3|a3|⟨a3,_⟩
        ·omega
        ·rw [dead _ m2 hm2 a3] at hd2;cases hd2
        ·rw [hmu] at a3;cases a3
       ·have:=hd (n1 - k0) (n2 - k0) i a2 b2
        omega
     ·exact (nilEn_is h1' h2' e w).2 k hk2
    ·exact (nilEn_is h1 h2 e w).2 k hk1.foot
 ·rcases hget n u m hu hm with ⟨i,o,_,h1,h2,qs,h3,h4⟩|⟨rfl,qs,h1,h2⟩
  ·exact hM.rd i u o h1 h2 k ((fitEn_is hk h3 h4 (hM.holds i u o h1 h2)).2.1 k hk')
  ·exact absurd hk' ((nilEn_is h1 h2 e w).2 k)
def fitSv (k0:Nat) (xs:List (Option Nat)) (y x:SV):Option (List Prop):=match x with
 |.c (.one .any)=>some []
 |.c (.one q)=>(match y with|.c (.one p)=>fitPo k0 xs p q|_=>none)
 |.c (.agg qs)=>(match y with|.c (.agg ps)=>fitCs k0 xs ps qs|_=>none)
 |.c (.fn f qs)=>(match y with|.c (.fn g ps)=>(match eqb f g with|true=>fitCs k0 xs ps qs|false=>none)|_=>none)
 |_=>none
theorem fitSv_is {k0:Nat} (hk:k0≤e.length) {xs:List (Option Nat)} {y x:SV} {ps:List Prop} (h:fitSv k0 xs y x=some ps) (hp:∀ p∈ps,p) {u:Value} (hu:y.is e u):x.is (pEnv k0 e xs) u:=by
 unfold fitSv at h
 split at h
 ·trivial
 ·split at h
  ·exact fitPo_is hk h hp hu
  ·cases h
 ·split at h
  ·obtain ⟨us,h1,rfl⟩:=hu
   exact ⟨us,fitCs_all hk h hp h1,rfl⟩
  ·cases h
 ·split at h
  ·split at h
   ·rename_i he
    obtain rfl:=eqb_eq.1 he
    obtain ⟨us,h1,rfl⟩:=hu
    exact ⟨us,fitCs_all hk h hp h1,rfl⟩
   ·cases h
  ·cases h
 ·cases h
def fitV (k0:Nat) (xs:List (Option Nat)):List (Nat×SV)→List (Nat×SV)→Option (List Prop)
 |[],_=>some []
 |(t,x)::r,b=>(match baseGet t b with
  |some y=>andO (fitSv k0 xs y x) (fitV k0 xs r b)
  |none=>none)
theorem fitV_get {k0:Nat} (hk:k0≤e.length) {xs:List (Option Nat)} {b:List (Nat×SV)}:∀ {U:List (Nat×SV)} {ps:List Prop},fitV k0 xs U b=some ps→(∀ p∈ps,p)→∀ p∈U,∃ y,baseGet p.1 b=some y∧∀ u,y.is e u→p.2.is (pEnv k0 e xs) u
 |[],_,_,_,p,hp=>by cases hp
 |(t,x)::r,ps,h,hps,p,hp=>by
  simp only [fitV] at h
  split at h
  ·rename_i y hy
   obtain ⟨⟨qs,h0,h1⟩,_,h2,h3⟩:=andO_some h hps
   rcases List.mem_cons.1 hp with rfl|hp
   ·exact ⟨y,hy,fun u hu=>fitSv_is hk h0 h1 hu⟩
   ·exact fitV_get hk h2 h3 p hp
  ·cases h
def keyLt (n:Nat):List (Nat×SV)→Bool
 |[]=>true
 |(t,_)::r=>leb (t+1) n&&keyLt n r
def srcP (n:Nat) (q p:PV):Option (Option Nat):=match q with
 |.obj m=>(match eqb m n with
  |true=>(match p with|.obj i=>some (some i)|.v (.slice none 0 0)=>some none|_=>none)
  |false=>none)
 |.ptr m _=>(match eqb m n with
  |true=>(match p with|.ptr i _=>some (some i)|_=>none)
  |false=>none)
 |.sub m _ _ _=>(match eqb m n with
  |true=>(match p with|.sub i _ _ _=>some (some i)|_=>none)
  |false=>none)
 |_=>none
def srcPs (n:Nat):List PV→List PV→Option (Option Nat)
 |q::qs,p::ps=>(match srcP n q p with|some r=>some r|none=>srcPs n qs ps)
 |_,_=>none
def srcS (n:Nat) (x y:SV):Option (Option Nat):=match x with
 |.c (.one q)=>(match y with|.c (.one p)=>srcP n q p|_=>none)
 |.c (.agg qs)=>(match y with|.c (.agg ps)=>srcPs n qs ps|_=>none)
 |.c (.fn _ qs)=>(match y with|.c (.fn _ ps)=>srcPs n qs ps|_=>none)
 |_=>none
def srcV (n:Nat) (b:List (Nat×SV)):List (Nat×SV)→Option (Option Nat)
 |[]=>none
 |(t,x)::r=>(match baseGet t b with
  |some y=>(match srcS n x y with|some q=>some q|none=>srcV n b r)
  |none=>srcV n b r)
def srcE (n:Nat) (x y:En β):Option (Option Nat):=match x.ob with
 |.blk qs=>(match y.ob with|.blk ps=>srcPs n qs ps|.bx ps=>srcPs n qs ps|_=>none)
 |.bx qs=>(match y.ob with|.blk ps=>srcPs n qs ps|.bx ps=>srcPs n qs ps|_=>none)
 |_=>none
def srcLo (n:Nat):Nat→Mem β→Mem β→Option (Option Nat)
 |m+1,x::X,y::Y=>(match srcE n x y with|some q=>some q|none=>srcLo n m X Y)
 |_,_,_=>none
def srcHi (n:Nat) (mem:Mem β):Mem β→List (Option Nat)→Option (Option Nat)
 |x::X,some i::xs=>(match mem[i]? with
  |some y=>(match srcE n x y with|some q=>some q|none=>srcHi n mem X xs)
  |none=>srcHi n mem X xs)
 |_::X,none::xs=>srcHi n mem X xs
 |_,_=>none
def xs3 (V b:List (Nat×SV)) (mem X:Mem β) (k0:Nat):Nat→Nat→List (Option Nat)→List (Option Nat)
 |0,_,acc=>acc
 |m+1,n,acc=>match srcV n b V with
  |some q=>forceN (n+1) fun n1=>xs3 V b mem X k0 m n1 (acc++[q])
  |none=>(match srcLo n k0 X mem with
   |some q=>forceN (n+1) fun n1=>xs3 V b mem X k0 m n1 (acc++[q])
   |none=>(match srcHi n mem (X.drop k0) acc with
    |some q=>forceN (n+1) fun n1=>xs3 V b mem X k0 m n1 (acc++[q])
    |none=>forceN (n+1) fun n1=>xs3 V b mem X k0 m n1 (acc++[some n])))
def forceXs {α:Type}:List (Option Nat)→(List (Option Nat)→α)→α
 |[],k=>k []
 |none::r,k=>forceXs r fun r'=>k (none::r')
 |some i::r,k=>forceN i fun i'=>forceXs r fun r'=>k (some i'::r')
theorem forceXs_eq {α:Type}:∀ (xs:List (Option Nat)) (k:List (Option Nat)→α),forceXs xs k=k xs
 |[],_=>rfl
 |none::r,k=>by simp only [forceXs];rw [forceXs_eq r]
 |some i::r,k=>by simp only [forceXs,forceN_eq];rw [forceXs_eq r]
def fitSt (I:ObI β) (k0:Nat) (X:Mem β) (V:List (Nat×SV)) (s:SSt β):Option (List Prop):=
 forceXs (xs3 V s.base s.mem X k0 (X.length - k0) k0 []) fun xs=>andO (fitM I k0 xs s.mem X) (fitV k0 xs V s.base)
def Fit3 (I:ObI β) (k0:Nat) (X:Mem β) (V:List (Nat×SV)) (s:SSt β):Prop:=∃ ps,fitSt I k0 X V s=some ps∧∀ p∈ps,p
theorem Fit3.ok {k0:Nat} {X:Mem β} {V:List (Nat×SV)} {s:SSt β} (h:Fit3 I k0 X V s) (hM:MemOk W0 G I w e s.mem):∃ xs,k0≤e.length∧MemOk W0 G I w (pEnv k0 e xs) X∧∀ p∈V,∃ y,baseGet p.1 s.base=some y∧∀ u,y.is e u→p.2.is (pEnv k0 e xs) u:=by
 obtain ⟨ps,h1,h2⟩:=h
 unfold fitSt at h1
 rw [forceXs_eq] at h1
 obtain ⟨⟨_,a1,a2⟩,_,b1,b2⟩:=andO_some h1 h2
 obtain ⟨hk,hM'⟩:=hM.fit a1 a2
 exact ⟨_,hk,hM',fitV_get hk b1 b2⟩
def Tr.al:Tr β→List Bool→Option (List Prop×SX×SSt β)
 |.leaf x s,[]=>some ([],x,s)
 |.leaf _ _,_::_=>none
 |.br _ _ _,[]=>none
 |.br b t e,c::cs=>(match c with
  |true=>(match t.al cs with|some (ps,r)=>some ((b=true)::ps,r)|none=>none)
  |false=>(match e.al cs with|some (ps,r)=>some ((b=false)::ps,r)|none=>none))
 |.need ps t,cs=>(match t.al cs with|some (qs,r)=>some (ps++qs,r)|none=>none)
 |.fail,_=>none
end
end Go.Proofs.Ytiiekgcjilelpaa
