/- E3. -/
import Derived.Test.YtiiekgcjilelpaaE2p
import Derived.LoopN
open List renaming getElem?_eq_getElem → zaa, getElem?_eq_some_iff → zab, mem_append_right → zag, mem_append_left → zah, getElem?_take → zai, mem_of_getElem? → zaj, mem_cons_of_mem → zak, mem_cons_self → zal, getElem?_map → zan, mem_append → zbe
open Nat renaming le_refl → zbm
open Bool renaming and_eq_true → zbs
set_option linter.unusedSimpArgs false
set_option linter.unusedVariables false
namespace Go.Proofs.Ytiiekgcjilelpaa
open Go.RowKit
section
variable {β:Type} {S:Sy β} {I:ObI β} {W0:World} {G:Nat→Prop} {L:Lps β} {sz:Nat}
theorem ygz (all:List SRec) (base:List (Nat×SV)) (t:Nat):∀ rs:List SRec,yab t (yik all rs base)=(match yas t rs with|some r=>some (yt7 all r)|none=>yab t base)
 |[]=>rfl
 |r::rs=>by
  have ih:=ygz all base t rs
  simp only [yik]
  cases hd:r.dst with
  |none=>
   simp only [yas,hd,ylt]
   exact ih
  |some u=>
   simp only [yas,hd,ylt,yab]
   cases eqb u t with
   |true=>rfl
   |false=>exact ih
theorem yt6 {recs:List SRec} {base:List (Nat×SV)} {e:Env} {a:Act} (h:FrOk recs base e a sz):FrOk [] (yik recs recs base) e a sz:=by
 refine ⟨h.defers,h.size,fun t=>?_⟩
 have hs:=h.slot t
 simp only [ybb] at hs
 simp only [ybb,yas,ygz]
 cases hr:yas t recs with
 |none=>rw [hr] at hs;exact hs
 |some r=>
  rw [hr] at hs
  simp only at hs ⊢
  unfold yt7
  split
  ·rename_i hc
   exact hs.1 (by rw [hc];rfl)
  ·exact hs
def yah:Code→List Nat
 |.region _ ops _=>ops.toList.filterMap (·.dst)
 |.seq x y=>yah x++yah y
 |.cond _ x y=>yah x++yah y
 |.block _ c=>yah c
 |.loop c=>yah c
 |_=>[]
def yb4:Code→List Code
 |.region id ops d=>[.region id ops d]
 |.seq x y=>yb4 x++yb4 y
 |.cond c x y=>.cond c x y::(yb4 x++yb4 y)
 |.block _ c=>yb4 c
 |.loop c=>.loop c::yb4 c
 |_=>[]
def idF:Code→Nat
 |.region id _ _=>id+100000
 |.cond _ x _=>idC x+200000
 |.loop c=>idC c
 |_=>0
def ybe:Code→List Code
 |.seq x y=>ybe x++ybe y
 |.cond _ x y=>ybe x++ybe y
 |.block _ c=>ybe c
 |.loop c=>c::ybe c
 |_=>[]
structure After (W:Nat→Prop) (s s':SSt β):Prop where
 suf:∃ pre,s'.base=pre++s.base∧∀ p∈pre,W p.1
 le:s.ver≤s'.ver
 same:s'.ver=s.ver→s'.mem=s.mem
theorem After.refl (W:Nat→Prop) (s:SSt β):After W s s:=⟨⟨[],rfl,fun p hp=>by cases hp⟩,zbm _,fun _=>rfl⟩
theorem After.trans {W:Nat→Prop} {a b c:SSt β} (h:After W a b) (k:After W b c):After W a c:=by
 obtain ⟨p,hp,hp2⟩:=h.suf
 obtain ⟨q,hq,hq2⟩:=k.suf
 refine ⟨⟨q++p,by rw [hq,hp,List.append_assoc],fun x hx=>?_⟩,Nat.le_trans h.le k.le,fun hv=>?_⟩
 ·rcases zbe.1 hx with hx|hx
  ·exact hq2 x hx
  ·exact hp2 x hx
 ·have h1:=h.le;have h2:=k.le
  rw [k.same (by omega),h.same (by omega)]
theorem After.mono {W W':Nat→Prop} {a b:SSt β} (h:After W a b) (hw:∀ t,W t→W' t):After W' a b:=by
 obtain ⟨p,hp,hp2⟩:=h.suf
 exact ⟨⟨p,hp,fun x hx=>hw _ (hp2 x hx)⟩,h.le,h.same⟩
def Tr.all (R:SSt β→Prop):Tr β→Prop
 |.leaf _ s=>R s
 |.br _ t e=>t.all R∧e.all R
 |.need _ t=>t.all R
 |.fail=>True
theorem Tr.all_mono {R R':SSt β→Prop} (h:∀ s,R s→R' s):∀ {t:Tr β},t.all R→t.all R'
 |.leaf _ _,k=>h _ k
 |.br _ _ _,k=>⟨all_mono h k.1,all_mono h k.2⟩
 |.need _ t,k=>all_mono (t:=t) h k
 |.fail,_=>trivial
theorem Tr.all_bind {R:SSt β→Prop} {f:SSt β→Tr β} (hf:∀ s,R s→(f s).all R):∀ {t:Tr β},t.all R→(t.bind f).all R
 |.leaf .normal s,h=>hf s h
 |.leaf (.exit _) _,h=>h
 |.leaf .ret _,h=>h
 |.br _ _ _,h=>⟨all_bind hf h.1,all_bind hf h.2⟩
 |.need _ t,h=>all_bind (t:=t) hf h
 |.fail,h=>h
theorem Tr.all_unblock {R:SSt β→Prop} {id:Nat}:∀ {t:Tr β},t.all R→(t.unblock id).all R
 |.leaf .normal _,h=>h
 |.leaf (.exit i) s,h=>by
  simp only [Tr.unblock]
  split<;>exact h
 |.leaf .ret _,h=>h
 |.br _ _ _,h=>⟨all_unblock h.1,all_unblock h.2⟩
 |.need _ t,h=>all_unblock (t:=t) h
 |.fail,h=>h
def Tr.holds (K:SX→SSt β→Prop):Tr β→Prop
 |.leaf x s=>K x s
 |.br b t e=>(b=true→t.holds K)∧(b=false→e.holds K)
 |.need ps t=>(∀ p∈ps,p)∧t.holds K
 |.fail=>False
theorem Tr.holds_all {K:SX→SSt β→Prop} {R:SSt β→Prop}:∀ {t:Tr β},t.holds K→t.all R→t.holds fun x s=>K x s∧R s
 |.leaf _ _,h,k=>⟨h,k⟩
 |.br _ _ _,h,k=>⟨fun hb=>holds_all (h.1 hb) k.1,fun hb=>holds_all (h.2 hb) k.2⟩
 |.need _ t,h,k=>⟨h.1,holds_all (t:=t) h.2 k⟩
 |.fail,h,_=>h
theorem Tr.holds_bind {K:SX→SSt β→Prop} {f:SSt β→Tr β}:∀ {t:Tr β},(t.bind f).holds K→t.holds fun x s=>match x with|.normal=>(f s).holds K|x=>K x s
 |.leaf .normal _,h=>h
 |.leaf (.exit _) _,h=>h
 |.leaf .ret _,h=>h
 |.br _ _ _,h=>⟨fun hb=>holds_bind (h.1 hb),fun hb=>holds_bind (h.2 hb)⟩
 |.need _ _,h=>⟨h.1,holds_bind h.2⟩
 |.fail,h=>h
theorem Tr.holds_unblock {K:SX→SSt β→Prop} {id:Nat}:∀ {t:Tr β},(t.unblock id).holds K→t.holds fun x s=>match x with|.exit i=>if i=id then K .normal s else K (.exit i) s|x=>K x s
 |.leaf .normal _,h=>h
 |.leaf (.exit i) s,h=>by
  simp only [Tr.unblock] at h
  simp only [Tr.holds]
  split at h
  ·rename_i he;rw [if_pos (eqb_eq.1 he)];exact h
  ·rename_i he
   rw [if_neg (fun e=>by rw [eqb_eq.2 e] at he;cases he)];exact h
 |.leaf .ret _,h=>h
 |.br _ _ _,h=>⟨fun hb=>holds_unblock (h.1 hb),fun hb=>holds_unblock (h.2 hb)⟩
 |.need _ _,h=>⟨h.1,holds_unblock h.2⟩
 |.fail,h=>h
def SX.exit':SX→Exit
 |.normal=>.normal
 |.exit id=>.exit id
 |.ret=>.ret
def ye4 (S:Sy β) (I:ObI β) (W0:World) (G:Nat→Prop) (sz:Nat) (c:Code) (g:SSt β→Option (Tr β)):Prop:=∀ s t,g s=some t→
 t.all (After (·∈yah c) s)∧∀ K,t.holds K→∀ (Q:Exit→Act→World→Prop) a w e,FrOk [] s.base e a sz→MemOk W0 G I w e s.mem→
  (∀ x s' e' a' w',Grows e e'→K x s'→FrOk [] s'.base e' a' sz→MemOk W0 G I w' e' s'.mem→Q x.exit' a' w')→c.wp S.P Q a w
def ycr (S:Sy β) (I:ObI β) (W0:World) (G:Nat→Prop) (sz:Nat) (c:Code) (g:SSt β→Option (Tr β)):Prop:=ye4 S I W0 G sz (.loop c) g
def LpsOk (S:Sy β) (I:ObI β) (W0:World) (G:Nat→Prop) (L:Lps β) (sz:Nat) (c0:Code):Prop:=∀ c∈yb4 c0,∀ g,ysb (idF c) L=some g→ye4 S I W0 G sz c g
theorem LpsOk.nil (c:Code):LpsOk S I W0 G [] sz c:=fun _ _ g h=>by cases h
theorem ykm {s:SSt β} {K:SX→SSt β→Prop}:∀ {x:Option (List SRec×Mem β×Nat×List Prop)},(ypt s x).holds K→∃ recs mem ver ps,x=some (recs,mem,ver,ps)∧(∀ p∈ps,p)∧K .normal ⟨yik recs recs s.base,mem,ver⟩
 |some (recs,mem,ver,[]),h=>⟨recs,mem,ver,[],rfl,(fun p hp=>by cases hp),h⟩
 |some (recs,mem,ver,p::ps),h=>⟨recs,mem,ver,p::ps,rfl,h.1,h.2⟩
 |none,h=>h.elim
theorem ygh (hS:SyOk S I W0 G) {id n:Nat} {l:List Oper} {d:Bool} {s:SSt β} {K:SX→SSt β→Prop} {Q:Exit→Act→World→Prop} {a:Act} {w:World} {e:Env}
  (h:(ypt s (ybv S s.base n sz l 0 [] s.mem s.ver [])).holds K) (hB:d=true→RgSpec l n) (hB0:d=false→n=0) (hf:FrOk [] s.base e a sz) (hM:MemOk W0 G I w e s.mem)
  (hQ:∀ s' e' a' w',Grows e e'→K .normal s'→FrOk [] s'.base e' a' sz→MemOk W0 G I w' e' s'.mem→Q .normal a' w'):(Code.region id l.toArray d).wp S.P Q a w:=by
 obtain ⟨recs,mem,ver,ps,hr,hps,hK⟩:=ykm h
 have hend:∀ e' a' w',Grows e e'→FrOk recs s.base e' a' sz→MemOk W0 G I w' e' mem→Q .normal a' w':=fun e' a' w' hg hf' hM'=>hQ ⟨yik recs recs s.base,mem,ver⟩ e' a' w' hg hK (yt6 hf') hM'
 cases d with
 |true=>exact yo4 hS (hB rfl) hr hf hM hps hend
 |false=>
  refine wp_region_lit ?_
  exact ydc (l:=l) hS l 0 [] s.mem s.ver [] hr (fun j o hj=>by rw [Nat.zero_add];exact hj) (RInv.nil l) hf hM hps hend
theorem hdT_sound {W:List Nat} (hS:SyOk S I W0 G) (hch:S.A.ch=true) {id n:Nat} {l:List Oper} {s:SSt β} {K:SX→SSt β→Prop} {Q:Exit→Act→World→Prop} {a:Act} {w:World} {e:Env}
  (h:(hdT S sz n W l s).holds K) (hB:RgSpec l n) (hf:FrOk [] s.base e a sz) (hM:MemOk W0 G I w e s.mem)
  (hQ:∀ s' e' a' w',Grows e e'→K .normal s'→FrOk [] s'.base e' a' sz→MemOk W0 G I w' e' s'.mem→Q .normal a' w'):(Code.region id l.toArray true).wp S.P Q a w:=by
 unfold hdT at h
 split at h
 ·rename_i recsN memN verN psN hN
  simp only [yak] at h
  obtain ⟨recs,mem,ver,ps,hr,hps,hK⟩:=ykm h
  exact region_hd hS hch hB hN hr hf hM hps fun e' a' w' hg hf' hM'=>hQ ⟨yik recs recs s.base,mem,ver⟩ e' a' w' hg hK (yt6 hf') hM'
 ·exact h.elim
theorem yhb {n:Nat} (hS:SyOk S I W0 G) (hch:S.A.ch=true) {id:Nat} {l:List Oper} {s:SSt β} {K:SX→SSt β→Prop} {Q:Exit→Act→World→Prop} {a:Act} {w:World} {e:Env}
  (h:(ysp S sz l s n).holds K) (hf:FrOk [] s.base e a sz) (hM:MemOk W0 G I w e s.mem)
  (hQ:∀ s' e' a' w',Grows e e'→K .normal s'→FrOk [] s'.base e' a' sz→MemOk W0 G I w' e' s'.mem→Q .normal a' w'):(Code.region id l.toArray true).wp S.P Q a w:=by
 unfold ysp at h
 split at h
 ·rename_i hB
  split at h
  ·rename_i x hx
   rw [← hx] at h
   exact ygh (d:=true) hS h (fun _=>yjg hB) (fun h=>by cases h) hf hM hQ
  ·exact hdT_sound hS hch h (yjg hB) hf hM hQ
 ·exact h.elim
theorem yk2 (hS:SyOk S I W0 G) (hch:S.A.ch=true) {id:Nat} {l:List Oper} {s:SSt β} {K:SX→SSt β→Prop} {Q:Exit→Act→World→Prop} {a:Act} {w:World} {e:Env}
  (h:(ywm S sz l s).holds K) (hf:FrOk [] s.base e a sz) (hM:MemOk W0 G I w e s.mem)
  (hQ:∀ s' e' a' w',Grows e e'→K .normal s'→FrOk [] s'.base e' a' sz→MemOk W0 G I w' e' s'.mem→Q .normal a' w'):(Code.region id l.toArray true).wp S.P Q a w:=by
 unfold ywm at h
 rw [yak,yak,yak] at h
 split at h
 ·split at h
  ·exact yhb hS hch h hf hM hQ
  ·exact yhb hS hch h hf hM hQ
 ·exact yhb hS hch h hf hM hQ
theorem yeg (hS:SyOk S I W0 G) {id:Nat} {l:List Oper} {d:Bool} {s:SSt β} {K:SX→SSt β→Prop} {Q:Exit→Act→World→Prop} {a:Act} {w:World} {e:Env}
  (h:(yfa S sz l d s).holds K) (hf:FrOk [] s.base e a sz) (hM:MemOk W0 G I w e s.mem)
  (hQ:∀ s' e' a' w',Grows e e'→K .normal s'→FrOk [] s'.base e' a' sz→MemOk W0 G I w' e' s'.mem→Q .normal a' w'):(Code.region id l.toArray d).wp S.P Q a w:=by
 have go:∀ n,d=true→RgSpec l n→(regT S sz n l s).holds K→(Code.region id l.toArray d).wp S.P Q a w:=fun n hd hB h=>by
  unfold regT at h
  split at h
  ·rename_i x hx
   rw [← hx] at h
   exact ygh (d:=d) hS h (fun _=>hB) (fun h=>by rw [hd] at h;cases h) hf hM hQ
  ·exact h.elim
 unfold yfa at h
 split at h
 ·unfold regT at h
  split at h
  ·rename_i x hx
   rw [← hx] at h
   exact ygh (d:=false) hS h (fun hd=>by cases hd) (fun _=>rfl) hf hM hQ
  ·exact h.elim
 ·split at h
  ·split at h
   ·rename_i hg
    exact go _ rfl (yth hg) h
   ·rw [yak] at h
    split at h
    ·rename_i hg
     exact go _ rfl (yjg hg) h
    ·exact h.elim
  ·rename_i hch
   split at h
   ·rename_i hg
    split at h
    ·rename_i x hx
     rw [← hx] at h
     exact ygh (d:=true) hS h (fun _=>yth hg) (fun h=>by cases h) hf hM hQ
    ·exact yk2 hS hch h hf hM hQ
   ·exact yk2 hS hch h hf hM hQ
theorem yp3 (all:List SRec) (base:List (Nat×SV)):∀ rs:List SRec,∃ pre,yik all rs base=pre++base∧∀ p∈pre,∃ r∈rs,r.dst=some p.1
 |[]=>⟨[],rfl,fun p hp=>by cases hp⟩
 |r::rs=>by
  obtain ⟨pre,h,hp⟩:=yp3 all base rs
  simp only [yik]
  cases hd:r.dst with
  |none=>exact ⟨pre,h,fun p hpp=>by obtain ⟨r',h1,h2⟩:=hp p hpp;exact ⟨r',zak _ h1,h2⟩⟩
  |some t=>
   refine ⟨(t,yt7 all r)::pre,by rw [h];rfl,fun p hpp=>?_⟩
   rcases List.mem_cons.1 hpp with rfl|hpp
   ·exact ⟨r,zal ..,hd⟩
   ·obtain ⟨r',h1,h2⟩:=hp p hpp;exact ⟨r',zak _ h1,h2⟩
theorem yfw {base:List (Nat×SV)} {pn:Nat}:∀ (os:List Oper) (i:Nat) (recs:List SRec) (mem:Mem β) (ver:Nat) (ps:List Prop) {recs':List SRec} {mem':Mem β} {ver':Nat} {ps':List Prop},ybv S base pn sz os i recs mem ver ps=some (recs',mem',ver',ps')→
  (∀ r∈recs',r∈recs∨∃ o∈os,o.dst=r.dst)∧ver≤ver'∧(ver'=ver→mem'=mem)
 |[],i,recs,mem,ver,ps,recs',mem',ver',ps',h=>by
  simp only [ybv,Option.some.injEq,Prod.mk.injEq] at h
  obtain ⟨rfl,rfl,rfl,rfl⟩:=h
  exact ⟨fun r hr=>.inl hr,zbm _,fun _=>rfl⟩
 |o::os,i,recs,mem,ver,ps,recs',mem',ver',ps',h=>by
  simp only [ybv,yak] at h
  have step:∀ (c:List (Nat×Bool)) (sv:SV) (m2:Mem β) (v2:Nat) (p2:List Prop),(v2=ver∧m2=mem∨v2=ver+1)→ybv S base pn sz os (i+1) (⟨i,o.dst,c,sv⟩::recs) m2 v2 p2=some (recs',mem',ver',ps')→
    (∀ r∈recs',r∈recs∨∃ o'∈o::os,o'.dst=r.dst)∧ver≤ver'∧(ver'=ver→mem'=mem):=fun c sv m2 v2 p2 hv h=>by
   obtain ⟨h1,h2,h3⟩:=yfw os (i+1) _ _ _ _ h
   refine ⟨fun r hr=>?_,by rcases hv with ⟨rfl,_⟩|rfl<;>omega,fun hvv=>?_⟩
   ·rcases h1 r hr with h|⟨o',ho',hd⟩
    ·rcases List.mem_cons.1 h with rfl|h
     ·exact .inr ⟨o,zal ..,rfl⟩
     ·exact .inl h
    ·exact .inr ⟨o',zak _ ho',hd⟩
   ·rcases hv with ⟨rfl,rfl⟩|rfl
    ·exact h3 hvv
    ·omega
  split at h
  ·cases h
  ·split at h
   ·cases h
   ·exact step _ _ _ _ _ (.inl ⟨rfl,rfl⟩) h
   ·split at h
    ·cases h
    ·exact step _ _ _ _ _ (.inl ⟨rfl,rfl⟩) h
    ·exact step _ _ _ _ _ (.inr rfl) h
theorem yjz {W:List Nat} {base:List (Nat×SV)} {m0:Mem β} {lh:List Oper}:∀ (os:List Oper) (i:Nat) (recs:List SRec) (mem:Mem β) (ver:Nat) (ps:List Prop) (reach:Rc) {recs':List SRec} {mem':Mem β} {ver':Nat} {ps':List Prop},ye7 S base W m0 lh sz os i recs mem ver ps reach=some (recs',mem',ver',ps')→
  (∀ r∈recs',r∈recs∨∃ o∈os,o.dst=r.dst)∧ver≤ver'∧(ver'=ver→mem'=mem)
 |[],i,recs,mem,ver,ps,reach,recs',mem',ver',ps',h=>by
  simp only [ye7,Option.some.injEq,Prod.mk.injEq] at h
  obtain ⟨rfl,rfl,rfl,rfl⟩:=h
  exact ⟨fun r hr=>.inl hr,zbm _,fun _=>rfl⟩
 |o::os,i,recs,mem,ver,ps,reach,recs',mem',ver',ps',h=>by
  simp only [ye7,yak] at h
  have step:∀ (c:List (Nat×Bool)) (sv:SV) (m2:Mem β) (v2:Nat) (p2:List Prop) (reach':Rc),(v2=ver∧m2=mem∨v2=ver+1)→ye7 S base W m0 lh sz os (i+1) (⟨i,o.dst,c,sv⟩::recs) m2 v2 p2 reach'=some (recs',mem',ver',ps')→
    (∀ r∈recs',r∈recs∨∃ o'∈o::os,o'.dst=r.dst)∧ver≤ver'∧(ver'=ver→mem'=mem):=fun c sv m2 v2 p2 reach' hv h=>by
   obtain ⟨h1,h2,h3⟩:=yjz os (i+1) _ _ _ _ _ h
   refine ⟨fun r hr=>?_,by rcases hv with ⟨rfl,_⟩|rfl<;>omega,fun hvv=>?_⟩
   ·rcases h1 r hr with h|⟨o',ho',hd⟩
    ·rcases List.mem_cons.1 h with rfl|h
     ·exact .inr ⟨o,zal ..,rfl⟩
     ·exact .inl h
    ·exact .inr ⟨o',zak _ ho',hd⟩
   ·rcases hv with ⟨rfl,rfl⟩|rfl
    ·exact h3 hvv
    ·omega
  split at h
  ·cases h
  ·split at h
   ·cases h
   ·exact step _ _ _ _ _ _ (.inl ⟨rfl,rfl⟩) h
   ·split at h
    ·exact step _ _ _ _ _ _ (.inl ⟨rfl,rfl⟩) h
    ·split at h
     ·split at h
      ·exact step _ _ _ _ _ _ (.inr rfl) h
      ·split at h
       ·exact step _ _ _ _ _ _ (.inl ⟨rfl,rfl⟩) h
       ·cases h
     ·exact step _ _ _ _ _ _ (.inl ⟨rfl,rfl⟩) h
     ·exact step _ _ _ _ _ _ (.inr rfl) h
theorem ynx {l:List Oper} {all:List SRec}:∀ {recs:List SRec} {mem:Mem β} (r:SRec),r∈(fixF S l all recs mem).1→∃ r'∈recs,r'.dst=r.dst
 |[],mem,r,h=>by simp [fixF] at h
 |x::xs,mem,r,h=>by
  simp only [fixF] at h
  split at h
  ·rcases List.mem_cons.1 h with rfl|h
   ·exact ⟨_,zal ..,rfl⟩
   ·obtain ⟨r',h1,h2⟩:=ynx r h
    exact ⟨r',zak _ h1,h2⟩
  ·rcases List.mem_cons.1 h with rfl|h
   ·exact ⟨_,zal ..,rfl⟩
   ·obtain ⟨r',h1,h2⟩:=ynx r h
    exact ⟨r',zak _ h1,h2⟩
theorem ykn {l:List Oper} {s:SSt β} {x:Option (List SRec×Mem β×Nat×List Prop)} (h:∀ recs mem ver ps,x=some (recs,mem,ver,ps)→(∀ r∈recs,∃ o∈l,o.dst=r.dst)∧s.ver≤ver∧(ver=s.ver→mem=s.mem)):
  (ypt s x).all (After (·∈l.filterMap (·.dst)) s):=by
 have go:∀ recs mem ver ps,x=some (recs,mem,ver,ps)→After (·∈l.filterMap (·.dst)) s ⟨yik recs recs s.base,mem,ver⟩:=fun recs mem ver ps hr=>by
  obtain ⟨h1,h2,h3⟩:=h recs mem ver ps hr
  obtain ⟨pre,h4,h5⟩:=yp3 recs s.base recs
  refine ⟨⟨pre,h4,fun p hp=>?_⟩,h2,h3⟩
  obtain ⟨r,hr1,hr2⟩:=h5 p hp
  obtain ⟨o,ho,hd⟩:=h1 r hr1
  exact List.mem_filterMap.2 ⟨o,ho,hd.trans hr2⟩
 match x,go with
 |some (recs,mem,ver,[]),go=>exact go _ _ _ _ rfl
 |some (recs,mem,ver,p::ps),go=>exact go _ _ _ _ rfl
 |none,_=>trivial
theorem yh7 {n:Nat} {l:List Oper} {s:SSt β}:(ypt s (ybv S s.base n sz l 0 [] s.mem s.ver [])).all (After (·∈l.filterMap (·.dst)) s):=
 ykn fun recs mem ver ps hr=>by
  obtain ⟨h1,h2,h3⟩:=yfw l 0 _ _ _ _ hr
  exact ⟨fun r hr=>(h1 r hr).elim (fun h=>by cases h) id,h2,h3⟩
theorem yia {n:Nat} {l:List Oper} {s:SSt β}:(regT S sz n l s).all (After (·∈l.filterMap (·.dst)) s):=by
 unfold regT
 split
 ·rename_i x hx;rw [← hx];exact yh7
 ·trivial
theorem yhc {n:Nat} {l:List Oper} {s:SSt β}:(ysp S sz l s n).all (After (·∈l.filterMap (·.dst)) s):=by
 unfold ysp
 split
 ·split
  ·rename_i x hx;rw [← hx];exact yh7
  ·unfold hdT
   split
   ·rename_i recsN memN verN psN hN
    simp only [yak]
    refine ykn fun recs mem ver ps hr=>?_
    obtain ⟨h1,h2,h3⟩:=yjz (l.take n) 0 _ _ _ _ _ hN
    obtain ⟨g1,g2,g3⟩:=yfw (l.drop n) n _ _ _ _ hr
    refine ⟨fun r hr=>?_,by omega,fun hv=>by omega⟩
    rcases g1 r hr with h|⟨o,ho,hd⟩
    ·obtain ⟨r',h,hd'⟩:=ynx r h
     rcases h1 r' h with h|⟨o,ho,hd⟩
     ·cases h
     ·exact ⟨o,List.mem_of_mem_take ho,hd.trans hd'⟩
    ·exact ⟨o,List.mem_of_mem_drop ho,hd⟩
   ·trivial
 ·trivial
theorem yk3 {l:List Oper} {s:SSt β}:(ywm S sz l s).all (After (·∈l.filterMap (·.dst)) s):=by
 unfold ywm
 rw [yak,yak,yak]
 split
 ·split
  ·exact yhc
  ·exact yhc
 ·exact yhc
theorem yeh {S:Sy β} {l:List Oper} {d:Bool} {s:SSt β}:(yfa S sz l d s).all (After (·∈l.filterMap (·.dst)) s):=by
 unfold yfa
 split
 ·exact yia
 ·split
  ·split
   ·exact yia
   ·rw [yak]
    split
    ·exact yia
    ·trivial
  ·split
   ·split
    ·rename_i x hx;rw [← hx];exact yh7
    ·exact yk3
   ·exact yk3
theorem yd8 {l:List Oper} {d:Bool} {s:SSt β}:∀ (n:Nat) (S:Sy β),(yiu sz l d s n S).all (After (·∈l.filterMap (·.dst)) s)
 |0,S=>yeh
 |n+1,S=>by
  simp only [yiu]
  split
  ·split
   ·exact ⟨yd8 n _,yd8 n _⟩
   ·trivial
  ·exact yeh
theorem ye9 {l:List Oper} {d:Bool} {s:SSt β}:(yg4 S sz l d s).all (After (·∈l.filterMap (·.dst)) s):=by
 unfold yg4
 split
 ·exact yd8 _ _
 ·split
  ·exact yd8 _ _
  ·exact yeh
theorem SyOk.bare (h:SyOk S I W0 G):SyOk S.bare I W0 G:=
 have g:∀ W0 G,SyOk0 S.bare I W0 G:=fun W0 G=>⟨h.mix,h.one,(fun f g hg=>by cases hg),h.eqs,(fun t args mem ps r m' h=>by cases h),(fun op args mem ps r mo h=>by cases h),(fun _ op args m m' ps r h=>by cases h),(fun _ f g hg=>by cases hg),(fun _ f g hg=>by cases hg),(fun _ t k qs args mem ps r m' _ h=>by cases h),(fun _ t args mem ps r m' _ h=>by cases h),(fun _ t x y p v mem ps r m' _ h=>by cases h),(fun _ t u v mem ps r m' h=>by cases h)⟩
 ⟨g W0 G,fun _=>g⟩
theorem SyOk.with (h:SyOk S I W0 G) (g:Nat) (b:Bool):SyOk (S.with g b) I W0 G:=
 have g:∀ W0 G,SyOk0 S I W0 G→SyOk0 (S.with g b) I W0 G:=fun W0 G h=>⟨h.mix,h.one,h.fns,h.eqs,h.app,h.ops,h.opm,h.fnm,h.loc,h.opb,h.opa,h.ost,h.apl⟩
 ⟨g W0 G h.toSyOk0,fun hc W1 G1=>g W1 G1 (h.re hc W1 G1)⟩
theorem yd7 {id:Nat} {l:List Oper} {d:Bool} {s:SSt β} {K:SX→SSt β→Prop} {Q:Exit→Act→World→Prop} {a:Act} {w:World} {e:Env} (hf:FrOk [] s.base e a sz):∀ (n:Nat) (S:Sy β),SyOk S I W0 G→(yiu sz l d s n S).holds K→MemOk W0 G I w e s.mem→
  (∀ s' e' a' w',Grows e e'→K .normal s'→FrOk [] s'.base e' a' sz→MemOk W0 G I w' e' s'.mem→Q .normal a' w')→(Code.region id l.toArray d).wp S.P Q a w
 |0,S,hS,h,hM,hQ=>yeg hS h hf hM hQ
 |n+1,S,hS,h,hM,hQ=>by
  simp only [yiu] at h
  split at h
  ·split at h
   ·rename_i g q _
    cases q with
    |true=>exact yd7 hf n (S.with g true) (hS.with g true) (h.1 rfl) hM hQ
    |false=>exact yd7 hf n (S.with g false) (hS.with g false) (h.2 rfl) hM hQ
   ·exact h.elim
  ·exact yeg hS h hf hM hQ
theorem ye8 (hS:SyOk S I W0 G) {id:Nat} {l:List Oper} {d:Bool} {s:SSt β} {K:SX→SSt β→Prop} {Q:Exit→Act→World→Prop} {a:Act} {w:World} {e:Env}
  (h:(yg4 S sz l d s).holds K) (hf:FrOk [] s.base e a sz) (hM:MemOk W0 G I w e s.mem)
  (hQ:∀ s' e' a' w',Grows e e'→K .normal s'→FrOk [] s'.base e' a' sz→MemOk W0 G I w' e' s'.mem→Q .normal a' w'):(Code.region id l.toArray d).wp S.P Q a w:=by
 unfold yg4 at h
 split at h
 ·exact yd7 hf _ _ hS h hM hQ
 ·split at h
  ·exact yd7 hf _ S.bare hS.bare h hM hQ
  ·exact yeg hS h hf hM hQ
theorem yet {f:Mem β→Mem β} {K:SX→SSt β→Prop}:∀ {t:Tr β},(t.mapM f).holds K→t.holds fun x s=>K x ⟨s.base,f s.mem,s.ver⟩
 |.leaf _ _,h=>h
 |.br _ _ _,h=>⟨fun hb=>yet (h.1 hb),fun hb=>yet (h.2 hb)⟩
 |.need _ _,h=>⟨h.1,yet h.2⟩
 |.fail,h=>h
theorem yhx {f:Mem β→Mem β} {R R':SSt β→Prop} (hr:∀ s,R s→R' ⟨s.base,f s.mem,s.ver⟩):∀ {t:Tr β},t.all R→(t.mapM f).all R'
 |.leaf _ _,h=>hr _ h
 |.br _ _ _,h=>⟨yhx hr h.1,yhx hr h.2⟩
 |.need _ t,h=>yhx (t:=t) hr h
 |.fail,_=>trivial
theorem ylo {l:List Oper} {d:Bool} {s:SSt β}:(yho S sz l d s).all (After (·∈l.filterMap (·.dst)) s):=by
 unfold yho
 split
 ·refine yhx (R:=After (·∈l.filterMap (·.dst)) ⟨s.base,unB s.mem,s.ver⟩) (fun s' h=>?_) ye9
  refine ⟨h.suf,h.le,fun hv=>?_⟩
  have:=h.same hv
  show reB s.mem s'.mem=s.mem
  rw [this]
  exact yrt s.mem
 ·exact ye9
theorem yln (hS:SyOk S I W0 G) {id:Nat} {l:List Oper} {d:Bool} {s:SSt β} {K:SX→SSt β→Prop} {Q:Exit→Act→World→Prop} {a:Act} {w:World} {e:Env}
  (h:(yho S sz l d s).holds K) (hf:FrOk [] s.base e a sz) (hM:MemOk W0 G I w e s.mem)
  (hQ:∀ s' e' a' w',Grows e e'→K .normal s'→FrOk [] s'.base e' a' sz→MemOk W0 G I w' e' s'.mem→Q .normal a' w'):(Code.region id l.toArray d).wp S.P Q a w:=by
 unfold yho at h
 split at h
 ·exact ye8 hS (s:=⟨s.base,unB s.mem,s.ver⟩) (yet h) hf hM.unB fun s' e' a' w' hg hK hf' hM'=>hQ ⟨s'.base,reB s.mem s'.mem,s'.ver⟩ e' a' w' hg hK hf' (hM'.reB s.mem)
 ·exact ye8 hS h hf hM hQ
theorem SyOk.noF (h:SyOk S I W0 G):SyOk S.noF I W0 G:=
 have g:∀ W0 G,SyOk0 S I W0 G→SyOk0 S.noF I W0 G:=fun W0 G h=>⟨h.mix,h.one,(fun f g hg=>by cases hg),h.eqs,h.app,h.ops,h.opm,(fun _ f g hg=>by cases hg),(fun _ f g hg=>by cases hg),h.opb,h.opa,h.ost,h.apl⟩
 ⟨g W0 G h.toSyOk0,fun hc W1 G1=>g W1 G1 (h.re hc W1 G1)⟩
theorem yhn {l:List Oper} {d:Bool} {s:SSt β}:(yh9 S sz l d s).all (After (·∈l.filterMap (·.dst)) s):=by
 unfold yh9
 split
 ·split
  ·refine yhx (R:=After (·∈l.filterMap (·.dst)) ⟨s.base,unB s.mem,s.ver⟩) (fun s' h=>?_) ye9
   refine ⟨h.suf,h.le,fun hv=>?_⟩
   have:=h.same hv
   show reB s.mem s'.mem=s.mem
   rw [this]
   exact yrt s.mem
  ·trivial
 ·exact ylo
theorem yhm (hS:SyOk S I W0 G) {id:Nat} {l:List Oper} {d:Bool} {s:SSt β} {K:SX→SSt β→Prop} {Q:Exit→Act→World→Prop} {a:Act} {w:World} {e:Env}
  (h:(yh9 S sz l d s).holds K) (hf:FrOk [] s.base e a sz) (hM:MemOk W0 G I w e s.mem)
  (hQ:∀ s' e' a' w',Grows e e'→K .normal s'→FrOk [] s'.base e' a' sz→MemOk W0 G I w' e' s'.mem→Q .normal a' w'):(Code.region id l.toArray d).wp S.P Q a w:=by
 unfold yh9 at h
 split at h
 ·split at h
  ·exact ye8 hS.noF (s:=⟨s.base,unB s.mem,s.ver⟩) (yet h) hf hM.unB fun s' e' a' w' hg hK hf' hM'=>hQ ⟨s'.base,reB s.mem s'.mem,s'.ver⟩ e' a' w' hg hK hf' (hM'.reB s.mem)
  ·exact h.elim
 ·exact yln hS h hf hM hQ
theorem yff (b:Bool) (b1 b2 r:List (Nat×SV)):∀ xs:List (Nat×SV),∃ pre,yce b b1 b2 xs r=pre++r∧∀ p∈pre,∃ x∈xs,x.1=p.1
 |[]=>⟨[],rfl,fun p hp=>by cases hp⟩
 |(t,x)::xs=>by
  obtain ⟨pre,h,hp⟩:=yff b b1 b2 r xs
  refine ⟨(t,yl6 b (yab t b1) (yab t b2))::pre,by simp only [yce];rw [h];rfl,fun p hpp=>?_⟩
  rcases List.mem_cons.1 hpp with rfl|hpp
  ·exact ⟨(t,x),zal ..,rfl⟩
  ·obtain ⟨y,h1,h2⟩:=hp p hpp;exact ⟨y,zak _ h1,h2⟩
theorem yi6 {α:Type} {pre b:List α}:(pre++b).take ((pre++b).length - b.length)=pre:=by simp
theorem ysd {W:Nat→Prop} {b:Bool} {s:SSt β} {t e:Tr β} (h1:t.all (After W s)) (h2:e.all (After W s)):(joinT b s t e).all (After W s):=by
 unfold joinT
 split
 ·rename_i s1 s2
  split
  ·obtain ⟨p1,e1,q1⟩:=After.suf h1
   obtain ⟨p2,e2,q2⟩:=After.suf h2
   have t1:s1.base.take (s1.base.length - s.base.length)=p1:=by rw [e1];exact yi6
   have t2:s2.base.take (s2.base.length - s.base.length)=p2:=by rw [e2];exact yi6
   rw [t1,t2]
   obtain ⟨r2,g2,k2⟩:=yff b s1.base s2.base s.base p2
   obtain ⟨r1,g1,k1⟩:=yff b s1.base s2.base (yce b s1.base s2.base p2 s.base) p1
   refine ⟨⟨r1++r2,by simp only;rw [g1,g2,List.append_assoc],fun p hp=>?_⟩,zbm _,fun _=>rfl⟩
   rcases zbe.1 hp with hp|hp
   ·obtain ⟨x,hx,he⟩:=k1 p hp;rw [← he];exact q1 x hx
   ·obtain ⟨x,hx,he⟩:=k2 p hp;rw [← he];exact q2 x hx
  ·exact ⟨h1,h2⟩
 ·exact ⟨h1,h2⟩
theorem yma {W:Nat→Prop} {f:SSt β→Tr β} (hf:∀ s,(f s).all (After W s)):∀ (n:Nat) (s:SSt β),(iter f n s).all (After W s)
 |0,_=>trivial
 |n+1,s=>by
  simp only [iter]
  exact Tr.all_bind (fun s' hs'=>Tr.all_mono (fun s2 h2=>hs'.trans h2) (yma hf n s')) (hf s)
theorem ybj:∀ (c:Code),LpsOk S I W0 G L sz c→∀ (s:SSt β),(symC S L sz c s).all (After (·∈yah c) s)
 |.skip,_,s=>After.refl _ s
 |.exit _,_,s=>After.refl _ s
 |.ret,_,s=>After.refl _ s
 |.region id ops d,hL,s=>by
  simp only [symC]
  split
  ·rename_i g hg
   split
   ·rename_i t ht
    exact (hL (.region id ops d) (by simp only [yb4];exact zal ..) g hg s t ht).1
   ·trivial
  ·simp only [yah]
   exact yhn
 |.seq x y,hL,s=>by
  simp only [symC,yah]
  have hx:LpsOk S I W0 G L sz x:=fun c hc=>hL c (by simp only [yb4];exact zah _ hc)
  have hy:LpsOk S I W0 G L sz y:=fun c hc=>hL c (by simp only [yb4];exact zag _ hc)
  exact Tr.all_bind (fun s' hs'=>Tr.all_mono (fun s2 h2=>hs'.trans (h2.mono fun t ht=>zag _ ht)) (ybj y hy s')) (Tr.all_mono (fun s2 h2=>h2.mono fun t ht=>zah _ ht) (ybj x hx s))
 |.cond c x y,hL,s=>by
  simp only [symC,yah]
  have hx:LpsOk S I W0 G L sz x:=fun c' hc=>hL c' (by simp only [yb4];exact zak _ (zah _ hc))
  have hy:LpsOk S I W0 G L sz y:=fun c' hc=>hL c' (by simp only [yb4];exact zak _ (zag _ hc))
  have h1:=Tr.all_mono (fun s2 h2=>After.mono (W':=(·∈yah x++yah y)) h2 fun t ht=>zah _ ht) (ybj x hx s)
  have h2:=Tr.all_mono (fun s2 h2=>After.mono (W':=(·∈yah x++yah y)) h2 fun t ht=>zag _ ht) (ybj y hy s)
  split
  ·rename_i g hg
   split
   ·rename_i t ht
    exact (hL (.cond c x y) (by simp only [yb4];exact zal ..) g hg s t ht).1
   ·trivial
  split
  ·exact h1
  ·exact h2
  ·exact ysd h1 h2
  ·trivial
 |.block id c,hL,s=>by
  simp only [symC,yah]
  exact Tr.all_unblock (ybj c (fun c' hc=>hL c' hc) s)
 |.loop c,hL,s=>by
  simp only [symC,yah]
  split
  ·rename_i g hg
   split
   ·rename_i t ht
    exact (hL (.loop c) (by simp only [yb4];exact zal ..) g hg s t ht).1
   ·trivial
  ·exact yma (fun s=>ybj c (fun c' hc=>hL c' (by simp only [yb4];exact zak _ hc)) s) _ s
 |.rangeFunc _ _ _ _,_,s=>trivial
 |.scope _,_,s=>trivial
 |.label _,_,s=>trivial
 |.goto _,_,s=>trivial
 |.refuse _,_,s=>trivial
theorem mergeV_is {b:Bool} {x y z:Value} (h:mergeV b x y=some z):z=cond b x y:=by
 unfold mergeV at h
 split at h
 ·simp only [Option.some.injEq] at h;subst h;cases b<;>rfl
 ·split at h
  ·rename_i hk
   simp only [eqK,decide_eq_true_eq] at hk
   simp only [Option.some.injEq] at h;subst h;subst hk;cases b<;>rfl
  ·cases h
 ·simp only [Option.some.injEq] at h;subst h;cases b<;>rfl
 ·simp only [Option.some.injEq] at h;subst h;cases b<;>rfl
 ·cases h
theorem ykg {e:Env} {b:Bool} {x y:PV} {u:Value} (h:(cond b x y).is e u):(ytx b x y).is e u:=by
 unfold ytx
 split
 ·split
  ·rename_i he
   rw [zbs] at he
   have h1:=eqb_eq.1 he.1
   have h2:=eqb_eq.1 he.2
   subst h1;subst h2
   cases b<;>exact h
  ·trivial
 ·split
  ·rename_i he
   have h1:=eqb_eq.1 he
   subst h1
   cases b<;>exact h
  ·trivial
 ·split
  ·rename_i u1 u2 h1 h2
   split
   ·rename_i z hz
    have:=mergeV_is hz
    show u=z
    rw [this]
    cases b with
    |true=>exact yad h1 h
    |false=>exact yad h2 h
   ·trivial
  ·trivial
theorem ydt {e:Env} {b:Bool}:∀ {xs ys zs:List PV} {us:List Value},ydd b xs ys=some zs→AllIs e (cond b xs ys) us→AllIs e zs us
 |[],[],zs,us,h,hu=>by simp only [ydd,Option.some.injEq] at h;subst h;cases b<;>exact hu
 |x::xs,y::ys,zs,us,h,hu=>by
  simp only [ydd] at h
  split at h
  ·rename_i ws hw
   simp only [Option.some.injEq] at h
   subst h
   cases us with
   |nil=>cases b<;>exact hu.elim
   |cons u us=>
    cases b with
    |true=>exact ⟨ykg (b:=true) hu.1,ydt (b:=true) hw hu.2⟩
    |false=>exact ⟨ykg (b:=false) hu.1,ydt (b:=false) hw hu.2⟩
  ·cases h
 |[],_::_,_,_,h,_=>by simp [ydd] at h
 |_::_,[],_,_,h,_=>by simp [ydd] at h
theorem mergeS_is {e:Env} {b:Bool} {x y:Option SV} {u:Value} (h:∀ z,cond b x y=some z→z.is e u):(yl6 b x y).is e u:=by
 unfold yl6
 split
 ·refine ykg (b:=b) ?_
  cases b with
  |true=>exact h _ rfl
  |false=>exact h _ rfl
 ·split
  ·rename_i xs ys z hz
   cases b with
   |true=>
    obtain ⟨us,h1,h2⟩:=h _ rfl
    exact ⟨us,ydt (b:=true) hz h1,h2⟩
   |false=>
    obtain ⟨us,h1,h2⟩:=h _ rfl
    exact ⟨us,ydt (b:=false) hz h1,h2⟩
  ·trivial
 ·trivial
theorem yfg {b:Bool} {b1 b2:List (Nat×SV)} {r:List (Nat×SV)} (t:Nat):∀ xs:List (Nat×SV),yab t (yce b b1 b2 xs r)=some (yl6 b (yab t b1) (yab t b2))∨(yab t xs=none∧yab t (yce b b1 b2 xs r)=yab t r)
 |[]=>.inr ⟨rfl,rfl⟩
 |(u,x)::xs=>by
  simp only [yce,yab]
  cases he:eqb u t with
  |true=>rw [eqb_eq.1 he];exact .inl rfl
  |false=>exact yfg t xs
theorem yej {t:Nat} {r:List (Nat×SV)}:∀ {pre:List (Nat×SV)},yab t pre=none→yab t (pre++r)=yab t r
 |[],_=>rfl
 |(u,x)::pre,h=>by
  simp only [yab] at h
  rw [List.cons_append]
  simp only [yab]
  split at h
  ·cases h
  ·exact yej h
theorem ykf {b:Bool} {s0 s1 s2:SSt β} (h1:∃ pre,s1.base=pre++s0.base) (h2:∃ pre,s2.base=pre++s0.base) {e:Env} {a:Act} (hf:FrOk [] (cond b s1 s2).base e a sz):
  FrOk [] (yce b s1.base s2.base (s1.base.take (s1.base.length - s0.base.length)) (yce b s1.base s2.base (s2.base.take (s2.base.length - s0.base.length)) s0.base)) e a sz:=by
 refine ⟨hf.defers,hf.size,fun t=>?_⟩
 have hs:=hf.slot t
 simp only [ybb,yas] at hs ⊢
 obtain ⟨p1,e1⟩:=h1
 obtain ⟨p2,e2⟩:=h2
 have t1:s1.base.take (s1.base.length - s0.base.length)=p1:=by rw [e1];exact yi6
 have t2:s2.base.take (s2.base.length - s0.base.length)=p2:=by rw [e2];exact yi6
 have hmerged:(yl6 b (yab t s1.base) (yab t s2.base)).is e (a.tmps.getD t undef):=mergeS_is fun z hz=>by
  cases b with
  |true=>simp only [cond] at hz hs;rw [hz] at hs;exact hs
  |false=>simp only [cond] at hz hs;rw [hz] at hs;exact hs
 rw [t1,t2]
 rcases yfg (b:=b) (b1:=s1.base) (b2:=s2.base) (r:=yce b s1.base s2.base p2 s0.base) t p1 with g|⟨g1,g⟩
 ·rw [g];exact hmerged
 ·rw [g]
  rcases yfg (b:=b) (b1:=s1.base) (b2:=s2.base) (r:=s0.base) t p2 with k|⟨k1,k⟩
  ·rw [k];exact hmerged
  ·rw [k]
   have q1:yab t s1.base=yab t s0.base:=by rw [e1];exact yej g1
   have q2:yab t s2.base=yab t s0.base:=by rw [e2];exact yej k1
   cases b with
   |true=>simp only [cond] at hs;rw [q1] at hs;exact hs
   |false=>simp only [cond] at hs;rw [q2] at hs;exact hs
theorem yl9 {c:Code} {f:SSt β→Tr β} (hf:∀ {s:SSt β} {K:SX→SSt β→Prop} {Q:Exit→Act→World→Prop} {a:Act} {w:World} {e:Env},(f s).holds K→FrOk [] s.base e a sz→MemOk W0 G I w e s.mem→
   (∀ x s' e' a' w',Grows e e'→K x s'→FrOk [] s'.base e' a' sz→MemOk W0 G I w' e' s'.mem→Q x.exit' a' w')→c.wp S.P Q a w) {K:SX→SSt β→Prop} {Q:Exit→Act→World→Prop}:
  ∀ (n:Nat) {s:SSt β} {a:Act} {w:World} {e:Env},(iter f n s).holds (fun x s'=>x≠.normal∧K x s')→FrOk [] s.base e a sz→MemOk W0 G I w e s.mem→
   (∀ x s' e' a' w',Grows e e'→K x s'→FrOk [] s'.base e' a' sz→MemOk W0 G I w' e' s'.mem→Q x.exit' a' w')→Code.rounds S.P c Q n a w
 |0,s,a,w,e,h,_,_,_=>h.elim
 |n+1,s,a,w,e,h,hF,hM,hQ=>by
  rw [rounds_succ]
  simp only [iter] at h
  refine hf (Tr.holds_bind h) hF hM fun z s' e' a' w' hg hK hf' hM'=>?_
  cases z with
  |normal=>exact yl9 hf n hK hf' hM' fun z s2 e2 a2 w2 hg2=>hQ z s2 e2 a2 w2 (hg.trans hg2)
  |exit id=>exact hQ (.exit id) s' e' a' w' hg hK.2 hf' hM'
  |ret=>exact hQ .ret s' e' a' w' hg hK.2 hf' hM'
theorem iter_ne {f:SSt β→Tr β} {K:SX→SSt β→Prop}:∀ (n:Nat) {s:SSt β},(iter f n s).holds K→(iter f n s).holds fun x s'=>x≠.normal∧K x s':=by
 have key:∀ (n:Nat),(∀ s,(iter f n s).holds K→(iter f n s).holds fun x s'=>x≠.normal∧K x s')→∀ {t:Tr β},(t.bind (iter f n)).holds K→(t.bind (iter f n)).holds fun x s'=>x≠.normal∧K x s':=by
  intro n ih t
  induction t with
  |leaf x s=>
   intro h
   cases x with
   |normal=>exact ih s h
   |exit id=>exact ⟨by simp,h⟩
   |ret=>exact ⟨by simp,h⟩
  |br b t e h1 h2=>intro h;exact ⟨fun hb=>h1 (h.1 hb),fun hb=>h2 (h.2 hb)⟩
  |need ps t h1=>intro h;exact ⟨h.1,h1 h.2⟩
  |fail=>intro h;exact h
 intro n
 induction n with
 |zero=>intro s h;exact h.elim
 |succ n ih=>intro s h;simp only [iter] at h ⊢;exact key n (fun s=>ih) h
theorem ya9 (hS:SyOk S I W0 G):∀ (c:Code),LpsOk S I W0 G L sz c→∀ {s:SSt β} {K:SX→SSt β→Prop} {Q:Exit→Act→World→Prop} {a:Act} {w:World} {e:Env},
  (symC S L sz c s).holds K→FrOk [] s.base e a sz→MemOk W0 G I w e s.mem→
  (∀ x s' e' a' w',Grows e e'→K x s'→FrOk [] s'.base e' a' sz→MemOk W0 G I w' e' s'.mem→Q x.exit' a' w')→c.wp S.P Q a w
 |.skip,_,s,K,Q,a,w,e,h,hf,hM,hQ=>wp_skip (hQ .normal s e a w (Grows.refl e) h hf hM)
 |.exit id,_,s,K,Q,a,w,e,h,hf,hM,hQ=>wp_exit (hQ (.exit id) s e a w (Grows.refl e) h hf hM)
 |.ret,_,s,K,Q,a,w,e,h,hf,hM,hQ=>wp_ret (hQ .ret s e a w (Grows.refl e) h hf hM)
 |.region id ops d,hL,s,K,Q,a,w,e,h,hf,hM,hQ=>by
  simp only [symC] at h
  split at h
  ·rename_i g hg
   split at h
   ·rename_i t ht
    exact (hL (.region id ops d) (by simp only [yb4];exact zal ..) g hg s t ht).2 K h Q a w e hf hM hQ
   ·exact h.elim
  have:=yhm (id:=id) hS (l:=ops.toList) h hf hM (fun s' e' a' w' hg hK=>hQ .normal s' e' a' w' hg hK)
  simpa using this
 |.seq x y,hL,s,K,Q,a,w,e,h,hf,hM,hQ=>by
  simp only [symC] at h
  refine wp_seq (ya9 hS x (fun c hc=>hL c (by simp only [yb4];exact zah _ hc)) (Tr.holds_bind h) hf hM fun z s' e' a' w' hg hK hf' hM'=>?_)
  cases z with
  |normal=>exact ya9 hS y (fun c hc=>hL c (by simp only [yb4];exact zag _ hc)) hK hf' hM' fun z s2 e2 a2 w2 hg2=>hQ z s2 e2 a2 w2 (hg.trans hg2)
  |exit id=>exact hQ (.exit id) s' e' a' w' hg hK hf' hM'
  |ret=>exact hQ .ret s' e' a' w' hg hK hf' hM'
 |.cond c x y,hL,s,K,Q,a,w,e,h,hf,hM,hQ=>by
  have hx:LpsOk S I W0 G L sz x:=fun c' hc=>hL c' (by simp only [yb4];exact zak _ (zah _ hc))
  have hy:LpsOk S I W0 G L sz y:=fun c' hc=>hL c' (by simp only [yb4];exact zak _ (zag _ hc))
  simp only [symC] at h
  split at h
  ·rename_i g hg
   split at h
   ·rename_i t ht
    exact (hL (.cond c x y) (by simp only [yb4];exact zal ..) g hg s t ht).2 K h Q a w e hf hM hQ
   ·exact h.elim
  split at h
  ·rename_i hb
   have hc:a.eval c=.bool true:=yb7 hb rfl (hf.op c)
   exact wp_cond_true hc (ya9 hS x hx h hf hM hQ)
  ·rename_i hb
   have hc:a.eval c=.bool false:=yb7 hb rfl (hf.op c)
   exact wp_cond_false hc (ya9 hS y hy h hf hM hQ)
  ·rename_i b hb
   have hc:a.eval c=.bool b:=yb7 hb rfl (hf.op c)
   have hb1:(Tr.br b (symC S L sz x s) (symC S L sz y s)).holds K→(Code.cond c x y).wp S.P Q a w:=fun h=>
    wp_cond_split hc (fun ht=>ya9 hS x hx (h.1 ht) hf hM hQ) (fun ht=>ya9 hS y hy (h.2 ht) hf hM hQ)
   have sx:=ybj x hx s
   have sy:=ybj y hy s
   unfold joinT at h
   split at h
   ·rename_i s1 s2 e1 e2
    rw [e1] at sx
    rw [e2] at sy
    have sx:After (·∈yah x) s s1:=sx
    have sy:After (·∈yah y) s s2:=sy
    have hs1:∃ pre,s1.base=pre++s.base:=by obtain ⟨p,hp,_⟩:=sx.suf;exact ⟨p,hp⟩
    have hs2:∃ pre,s2.base=pre++s.base:=by obtain ⟨p,hp,_⟩:=sy.suf;exact ⟨p,hp⟩
    split at h
    ·rename_i hv
     rw [zbs] at hv
     have m1:=sx.same (eqb_eq.1 hv.1)
     have m2:=sy.same (eqb_eq.1 hv.2)
     refine wp_cond_split hc (fun ht=>?_) (fun ht=>?_)
     ·refine ya9 hS x hx (K:=fun z s'=>z=.normal∧s'=s1) (by rw [e1];exact ⟨rfl,rfl⟩) hf hM fun z s' e' a' w' hg hk hf' hM'=>?_
      obtain ⟨rfl,rfl⟩:=hk
      subst ht
      exact hQ .normal _ e' a' w' hg h (ykf (b:=true) hs1 hs2 hf') (by rw [m1] at hM';exact hM')
     ·refine ya9 hS y hy (K:=fun z s'=>z=.normal∧s'=s2) (by rw [e2];exact ⟨rfl,rfl⟩) hf hM fun z s' e' a' w' hg hk hf' hM'=>?_
      obtain ⟨rfl,rfl⟩:=hk
      subst ht
      exact hQ .normal _ e' a' w' hg h (ykf (b:=false) hs1 hs2 hf') (by rw [m2] at hM';exact hM')
    ·exact hb1 h
   ·exact hb1 h
  ·exact h.elim
 |.block id c,hL,s,K,Q,a,w,e,h,hf,hM,hQ=>by
  simp only [symC] at h
  refine wp_block (ya9 hS c (fun c' hc=>hL c' hc) (Tr.holds_unblock h) hf hM fun z s' e' a' w' hg hK hf' hM'=>?_)
  cases z with
  |normal=>exact hQ .normal s' e' a' w' hg hK hf' hM'
  |ret=>exact hQ .ret s' e' a' w' hg hK hf' hM'
  |exit i=>
   simp only [SX.exit',Exit.inBlock]
   simp only at hK
   split at hK
   ·rename_i he
    rw [if_pos he]
    exact hQ .normal s' e' a' w' hg hK hf' hM'
   ·rename_i he
    rw [if_neg he]
    exact hQ (.exit i) s' e' a' w' hg hK hf' hM'
 |.loop c,hL,s,K,Q,a,w,e,h,hf,hM,hQ=>by
  simp only [symC] at h
  split at h
  ·rename_i g hg
   split at h
   ·rename_i t ht
    exact (hL (.loop c) (by simp only [yb4];exact zal ..) g hg s t ht).2 K h Q a w e hf hM hQ
   ·exact h.elim
  ·refine wp_loop_rounds S.fuel (yl9 (fun {s K Q a w e} h hf hM hQ=>ya9 hS c (fun c' hc=>hL c' (by simp only [yb4];exact zak _ hc)) h hf hM hQ) S.fuel (iter_ne S.fuel h) hf hM hQ)
 |.rangeFunc _ _ _ _,_,s,K,Q,a,w,e,h,_,_,_=>by simp only [symC] at h;exact h.elim
 |.scope _,_,s,K,Q,a,w,e,h,_,_,_=>by simp only [symC] at h;exact h.elim
 |.label _,_,s,K,Q,a,w,e,h,_,_,_=>by simp only [symC] at h;exact h.elim
 |.goto _,_,s,K,Q,a,w,e,h,_,_,_=>by simp only [symC] at h;exact h.elim
 |.refuse _,_,s,K,Q,a,w,e,h,_,_,_=>by simp only [symC] at h;exact h.elim
end
section
variable {β:Type} {S:Sy β} {I:ObI β} {W0:World} {G:Nat→Prop} {L:Lps β} {sz:Nat}
def RT.holds (K:SV→SSt β→Prop):RT β→Prop
 |.leaf x s=>K x s
 |.br b t e=>(b=true→t.holds K)∧(b=false→e.holds K)
 |.need ps t=>(∀ p∈ps,p)∧t.holds K
 |.fail=>False
theorem Tr.holds_res {P:Program} {rs:List ResultVar} {K:SV→SSt β→Prop}:∀ {t:Tr β},(t.res P rs).holds K→t.holds fun x s=>(∀ id,x≠.exit id)∧∃ y,resS P rs s=some y∧K y s
 |.leaf .normal s,h=>by
  simp only [Tr.res] at h
  split at h
  ·rename_i y hy;exact ⟨by simp,y,hy,h⟩
  ·exact h.elim
 |.leaf .ret s,h=>by
  simp only [Tr.res] at h
  split at h
  ·rename_i y hy;exact ⟨by simp,y,hy,h⟩
  ·exact h.elim
 |.leaf (.exit _) _,h=>h.elim
 |.br _ _ _,h=>⟨fun hb=>holds_res (h.1 hb),fun hb=>holds_res (h.2 hb)⟩
 |.need _ _,h=>⟨h.1,holds_res h.2⟩
 |.fail,h=>h
def resVar (tmps:Array Value) (r:ResultVar):Sem Value:=match r with
 |.tmp t=>pure (tmps.getD t undef)
 |.cell t ty=>do loadVar ty (← asAddr (tmps.getD t undef))
theorem ygg (fn:Func) (tmps:Array Value):results fn tmps=(do
  let vs ←fn.results.mapM (resVar tmps)
  pure (if h:vs.size=1 then vs[0] else .tuple vs)):=by
 unfold results
 congr 1
theorem ydv {P:Program} {s:SSt β} {e:Env} {a:Act} {w:World} (hf:FrOk [] s.base e a sz) (hM:MemOk W0 G I w e s.mem) {r:ResultVar} {y:CV} (h:yhl P s r=some y):
  ∃ u,(resVar a.tmps r).run P w=.ok u w∧y.is e u:=by
 cases r with
 |tmp t=>
  simp only [yhl] at h
  exact ⟨_,rfl,yb7 (recs:=[]) (c:=[]) (yfj h) rfl (hf.op (.tmp t))⟩
 |cell t ty=>
  simp only [yhl] at h
  split at h
  ·rename_i p hp
   have hx:=yb7 (recs:=[]) (c:=[]) (yc1 hp) rfl (hf.op (.tmp t))
   have hx':p.is e (a.tmps.getD t undef):=hx
   obtain ⟨ad,u,h1,h2,h3⟩:=ypq hM h hx'
   refine ⟨u,?_,h3⟩
   simp only [resVar,h1,asAddr,Sem.run_bind,Sem.run_pure,Result.andThen_ok,h2]
  ·cases h
theorem resS_run {P:Program} {fn:Func} {s:SSt β} {e:Env} {a:Act} {w:World} (hf:FrOk [] s.base e a sz) (hM:MemOk W0 G I w e s.mem) {y:SV} (h:resS P fn.results.toList s=some y):∃ u,(results fn a.tmps).run P w=.ok u w∧y.is e u:=by
 unfold resS at h
 have harr:fn.results=fn.results.toList.toArray:=by simp
 split at h
 ·rename_i hr
  simp only [Option.some.injEq] at h
  subst h
  refine ⟨.tuple #[],?_,[],trivial,rfl⟩
  rw [ygg,harr,hr]
  simp [Sem.run_bind]
 ·rename_i r1 hr
  split at h
  ·rename_i x1 e1
   simp only [Option.some.injEq] at h
   subst h
   obtain ⟨u,h1,h2⟩:=ydv hf hM e1
   refine ⟨u,?_,h2⟩
   rw [ygg,harr,hr]
   simp [Sem.run_bind,h1]
  ·cases h
 ·rename_i r1 r2 hr
  split at h
  ·rename_i x1 x2 e1 e2
   simp only [Option.some.injEq] at h
   subst h
   obtain ⟨u1,h1,k1⟩:=ydv hf hM e1
   obtain ⟨u2,h2,k2⟩:=ydv hf hM e2
   refine ⟨.tuple #[u1,u2],?_,[u1,u2],⟨k1,k2,trivial⟩,rfl⟩
   rw [ygg,harr,hr]
   simp [Sem.run_bind,h1,h2]
  ·cases h
 ·rename_i r1 r2 r3 hr
  split at h
  ·rename_i x1 x2 x3 e1 e2 e3
   simp only [Option.some.injEq] at h
   subst h
   obtain ⟨u1,h1,k1⟩:=ydv hf hM e1
   obtain ⟨u2,h2,k2⟩:=ydv hf hM e2
   obtain ⟨u3,h3,k3⟩:=ydv hf hM e3
   refine ⟨.tuple #[u1,u2,u3],?_,[u1,u2,u3],⟨k1,k2,k3,trivial⟩,rfl⟩
   rw [ygg,harr,hr]
   simp [Sem.run_bind,h1,h2,h3]
  ·cases h
 ·cases h
theorem ylg {e:Env} (t:Nat):∀ (xs:List CV) (us:List Value) (k:Nat),AllC e xs us→(match yab t (yio k xs) with|some x=>∃ j u,t=k+j∧us[j]? =some u∧x.is e u|none=>∀ j,t=k+j→us[j]? =none)
 |[],[],k,_=>by simp [yio,yab]
 |x::xs,u::us,k,⟨h1,h2⟩=>by
  simp only [yio,yab]
  cases he:eqb k t with
  |true=>
   have:=eqb_eq.1 he
   exact ⟨0,u,by omega,rfl,h1⟩
  |false=>
   have hne:k≠t:=fun e=>by rw [eqb_eq.2 e] at he;cases he
   have ih:=ylg t xs us (k+1) h2
   simp only
   cases hb:yab t (yio (k+1) xs) with
   |some y=>
    rw [hb] at ih
    obtain ⟨j,v,h3,h4,h5⟩:=ih
    exact ⟨j+1,v,by omega,by simpa using h4,h5⟩
   |none=>
    rw [hb] at ih
    intro j hj
    cases j with
    |zero=>omega
    |succ j=>simpa using ih j (by omega)
 |[],_::_,_,h=>h.elim
 |_::_,[],_,h=>h.elim
theorem yeo (hS:SyOk S I W0 G) {f:FuncId} {fn:Func} (hf:S.P.funcs[f]? =some fn) (hb:fn.body=some (yat fn)) (hL:LpsOk S I W0 G L fn.ntmps (yat fn)) {args:List CV} {us:List Value} {e:Env} {mem:Mem β} {w:World}
  (ha:AllC e args us) (hlen:leb args.length fn.ntmps=true) (hM:MemOk W0 G I w e mem) {K:SV→SSt β→Prop} {R:Ending→World→Prop} (h:(ybu S L fn args mem).holds K)
  (hK:∀ y s e' w' v,Grows e e'→K y s→y.is e' v→MemOk W0 G I w' e' s.mem→R (.returned v) w'):Calls S.P f us.toArray w R:=by
 have hlen:=leb_le.1 hlen
 rw [← ha.len] at hlen
 refine calls_of_wp hf hb ?_
 refine ya9 hS (yat fn) hL (Tr.holds_res h) (e:=e) ⟨rfl,?_,fun t=>?_⟩ hM fun x s' e' a' w' hg hk hf' hM'=>?_
 ·simp;omega
 ·simp only [ybb,yas]
  have:=ylg t args us 0 ha
  have hget:(us.toArray++Array.replicate (fn.ntmps - us.toArray.size) undef).getD t undef=(us[t]?).getD undef:=by
   rw [Array.getD_eq_getD_getElem?]
   by_cases ht:t<us.length
   ·rw [Array.getElem?_append_left (by simpa using ht)];simp
   ·rw [Array.getElem?_append_right (by simp;omega),List.getElem?_eq_none (by omega)]
    simp only [Array.getElem?_replicate]
    split<;>rfl
  rw [hget]
  split
  ·rename_i x hx
   rw [hx] at this
   obtain ⟨j,u,h1,h2,h3⟩:=this
   rw [show t=j by omega,h2]
   exact h3
  ·rename_i hx
   rw [hx] at this
   rw [this t (by omega)]
   rfl
 ·obtain ⟨hne,y,hy,hKy⟩:=hk
  obtain ⟨u,h1,h2⟩:=resS_run hf' hM' hy
  cases x with
  |normal=>exact ⟨hf'.defers,u,h1,hK y s' e' w' u hg hKy h2 hM'⟩
  |ret=>exact ⟨hf'.defers,u,h1,hK y s' e' w' u hg hKy h2 hM'⟩
  |exit id=>exact absurd rfl (hne id)
def RT.is (v:Value):RT β→Prop
 |.leaf x _=>valS (some x)=some v
 |.br b t e=>(b=true→t.is v)∧(b=false→e.is v)
 |.need ps t=>(∀ p∈ps,p)∧t.is v
 |.fail=>False
theorem RT.is_holds {v:Value}:∀ {t:RT β},t.is v→t.holds fun x _=>valS (some x)=some v
 |.leaf _ _,h=>h
 |.br _ _ _,h=>⟨fun hb=>is_holds (h.1 hb),fun hb=>is_holds (h.2 hb)⟩
 |.need _ _,h=>⟨h.1,is_holds h.2⟩
 |.fail,h=>h
def ypy (b:Bool):List Prop→List Prop
 |[]=>[]
 |p::ps=>(b=false→p)::ypy b ps
theorem yex {b:Bool} (hb:b=false):∀ {qs:List Prop},(∀ p∈ypy b qs,p)→∀ q∈qs,q
 |[],_,q,hq=>by cases hq
 |p::ps,h,q,hq=>by
  rcases List.mem_cons.1 hq with rfl|hq
  ·exact h _ (zal ..) hb
  ·exact yex hb (fun r hr=>h r (zak _ hr)) q hq
def RT.ob:RT β→List Prop
 |.br b t e=>yme b t.ob++ypy b e.ob
 |.need ps t=>ps++t.ob
 |_=>[]
def boolV:Option Value→Option Bool
 |some (.bool b)=>some b
 |_=>none
def intV (k:IntKind):Option Value→Option Int
 |some (.int k' n)=>(match eqK k' k with|true=>some n|false=>none)
 |_=>none
def RT.valB:RT β→Option Bool
 |.leaf x _=>boolV (valS (some x))
 |.br b t e=>(match t.valB,e.valB with|some x,some y=>some (cond b x y)|_,_=>none)
 |.need _ t=>t.valB
 |.fail=>none
def RT.valI (k:IntKind):RT β→Option Int
 |.leaf x _=>intV k (valS (some x))
 |.br b t e=>(match t.valI k,e.valI k with|some x,some y=>some (cond b x y)|_,_=>none)
 |.need _ t=>t.valI k
 |.fail=>none
theorem RT.valB_is:∀ {t:RT β} {v:Bool},t.valB=some v→(∀ p∈t.ob,p)→t.is (.bool v)
 |.leaf x _,v,h,_=>by
  simp only [RT.valB,boolV] at h
  split at h
  ·rename_i b hb
   simp only [Option.some.injEq] at h
   subst h;exact hb
  ·cases h
 |.need ps t,v,h,hp=>⟨fun p hq=>hp p (zah _ hq),valB_is (t:=t) h fun p hq=>hp p (zag _ hq)⟩
 |.br b t e,v,h,hp=>by
  simp only [RT.valB] at h
  split at h
  ·rename_i x y hx hy
   simp only [Option.some.injEq] at h
   subst h
   exact ⟨fun hb=>by
    have:=ydw hb fun p hq=>hp p (zah _ hq)
    subst hb;exact valB_is hx this,fun hb=>by
    have:=yex hb fun p hq=>hp p (zag _ hq)
    subst hb;exact valB_is hy this⟩
  ·cases h
 |.fail,_,h,_=>by simp [RT.valB] at h
theorem RT.valI_is {k:IntKind}:∀ {t:RT β} {v:Int},t.valI k=some v→(∀ p∈t.ob,p)→t.is (.int k v)
 |.leaf x _,v,h,_=>by
  simp only [RT.valI,intV] at h
  split at h
  ·rename_i k' n hb
   split at h
   ·rename_i hk
    simp only [eqK,decide_eq_true_eq] at hk
    simp only [Option.some.injEq] at h
    subst h;subst hk;exact hb
   ·cases h
  ·cases h
 |.need ps t,v,h,hp=>⟨fun p hq=>hp p (zah _ hq),valI_is (t:=t) h fun p hq=>hp p (zag _ hq)⟩
 |.br b t e,v,h,hp=>by
  simp only [RT.valI] at h
  split at h
  ·rename_i x y hx hy
   simp only [Option.some.injEq] at h
   subst h
   exact ⟨fun hb=>by
    have:=ydw hb fun p hq=>hp p (zah _ hq)
    subst hb;exact valI_is hx this,fun hb=>by
    have:=yex hb fun p hq=>hp p (zag _ hq)
    subst hb;exact valI_is hy this⟩
  ·cases h
 |.fail,_,h,_=>by simp [RT.valI] at h
section
variable {f:FuncId} {fn:Func} {args:List CV} {us:List Value} {e:Env} {mem:Mem β} {w:World}
theorem sym_is (hS:SyOk S I W0 G) (hf:S.P.funcs[f]? =some fn) (hb:fn.body=some (yat fn)) (hL:LpsOk S I W0 G L fn.ntmps (yat fn)) (ha:AllC e args us) (hlen:leb args.length fn.ntmps=true) (hM:MemOk W0 G I w e mem) {v:Value}
  (h:(ybu S L fn args mem).is v):Calls S.P f us.toArray w (fun x w'=>x=.returned v∧Mod (fun k=>G (2 * k)) W0 w'):=
 yeo hS hf hb hL ha hlen hM (RT.is_holds h) fun y s e' w' u hg hy hu hM'=>by
  have hh:u=v:=yg1 hy fun z hz=>by cases hz;exact hu
  exact ⟨by rw [hh],hM'.mod⟩
theorem yep (hS:SyOk S I W0 G) (hf:S.P.funcs[f]? =some fn) (hb:fn.body=some (yat fn)) (hL:LpsOk S I W0 G L fn.ntmps (yat fn)) (ha:AllC e args us) (hlen:leb args.length fn.ntmps=true) (hM:MemOk W0 G I w e mem) {v:Bool} (ps:List Prop)
  (h:(ybu S L fn args mem).valB=some v) (ho:(ybu S L fn args mem).ob=ps) (hp:∀ p∈ps,p):Calls S.P f us.toArray w (fun x w'=>x=.returned (.bool v)∧Mod (fun k=>G (2 * k)) W0 w'):=
 sym_is hS hf hb hL ha hlen hM (RT.valB_is h (ho▸hp))
theorem sym_i {k:IntKind} (hS:SyOk S I W0 G) (hf:S.P.funcs[f]? =some fn) (hb:fn.body=some (yat fn)) (hL:LpsOk S I W0 G L fn.ntmps (yat fn)) (ha:AllC e args us) (hlen:leb args.length fn.ntmps=true) (hM:MemOk W0 G I w e mem) {v:Int} (ps:List Prop)
  (h:(ybu S L fn args mem).valI k=some v) (ho:(ybu S L fn args mem).ob=ps) (hp:∀ p∈ps,p):Calls S.P f us.toArray w (fun x w'=>x=.returned (.int k v)∧Mod (fun k=>G (2 * k)) W0 w'):=
 sym_is hS hf hb hL ha hlen hM (RT.valI_is h (ho▸hp))
end
def FnsOk (P:Program) (I:ObI β) (W0:World) (G:Nat→Prop) (F:Fns β):Prop:=∀ f g,yhz f F=some g→∀ args mem ps r mo,g args mem=some (ps,r,mo)→(∀ p∈ps,p)→
  (∀ us w,(callFunc f us).run P w=.ok (.enter f us) w)∧∀ w e us,MemOk W0 G I w e mem→AllC e args us→Calls P f us.toArray w (fun x w'=>∃ v,x=.returned v∧
   match mo with|none=>r.is e v∧Ext w w'|some m'=>∃ e',Grows e e'∧r.is e' v∧MemOk W0 G I w' e' m')
variable {P:Program} {F:Fns β}
theorem FnsOk.nil:FnsOk P I W0 G ([]:Fns β):=fun f g h=>by cases h
theorem FnsOk.cons {f:FuncId} {g:Fn2 β} (he:∀ us w,(callFunc f us).run P w=.ok (.enter f us) w)
  (h:∀ args mem ps r mo,g args mem=some (ps,r,mo)→(∀ p∈ps,p)→∀ w e us,MemOk W0 G I w e mem→AllC e args us→Calls P f us.toArray w (fun x w'=>∃ v,x=.returned v∧
   match mo with|none=>r.is e v∧Ext w w'|some m'=>∃ e',Grows e e'∧r.is e' v∧MemOk W0 G I w' e' m')) (ht:FnsOk P I W0 G F):FnsOk P I W0 G ((f,g)::F):=fun f' g' hg args mem ps r mo hr hp=>by
 simp only [yhz] at hg
 split at hg
 ·rename_i hb
  have:=eqb_eq.1 hb
  subst this
  simp only [Option.some.injEq] at hg
  subst hg
  exact ⟨he,h args mem ps r mo hr hp⟩
 ·exact ht f' g' hg args mem ps r mo hr hp
def cvOf:Value→CV
 |.agg xs=>.agg (xs.toList.map .v)
 |x=>.one (.v x)
def svOf:Value→SV
 |.tuple xs=>.tup (xs.toList.map cvOf)
 |x=>.c (cvOf x)
theorem allV_is (e:Env):∀ xs:List Value,AllIs e (xs.map .v) xs
 |[]=>trivial
 |x::xs=>⟨rfl,allV_is e xs⟩
theorem cvOf_is (e:Env) (v:Value):(cvOf v).is e v:=by
 unfold cvOf
 split
 ·rename_i xs
  exact ⟨xs.toList,allV_is e _,rfl⟩
 ·rfl
theorem yuu (e:Env):∀ xs:List Value,AllC e (xs.map cvOf) xs
 |[]=>trivial
 |x::xs=>⟨cvOf_is e x,yuu e xs⟩
theorem yrh (e:Env) (v:Value):(svOf v).is e v:=by
 unfold svOf
 split
 ·rename_i xs
  exact ⟨xs.toList,yuu e _,rfl⟩
 ·exact cvOf_is e v
def vfn (g:List Value→Option (List Prop×Value)):Fn2 β:=fun us _=>match mapO valC us with
 |some vs=>(match g vs with|some (ps,v)=>some (ps,svOf v,none)|none=>none)
 |none=>none
def Ob.frz (n:En β):En β:=⟨n.ob,false⟩
theorem MemOk.freeze {w:World} {e:Env} {mem:Mem β} (h:MemOk W0 G I w e mem):MemOk w (fun _=>False) I w e (mem.map Ob.frz):=by
 have hg:∀ (i:Nat) (n:En β),(mem.map Ob.frz)[i]? =some n→∃ m,mem[i]? =some m∧n=Ob.frz m:=fun i n hn=>by
  rw [zan] at hn
  cases hm:mem[i]? with
  |none=>rw [hm] at hn;cases hn
  |some m=>rw [hm] at hn;simp at hn;exact ⟨m,rfl,hn.symm⟩
 refine ⟨by simp [h.len],fun i u n hu hn=>?_,fun i u n hu hn k hk=>?_,fun i u n hu hn hm=>?_,fun i j u v n m hu hn hm=>?_,Mod.refl _ w,fun _ _ _ _ _ _ _=>.inr id⟩
 ·obtain ⟨m,hm,rfl⟩:=hg i n hn
  have:=h.holds i u m hu hm
  obtain ⟨ob,mu⟩:=m
  cases ob with
  |blk cells=>
   obtain ⟨b,o,rfl,hc⟩:=this
   exact ⟨b,o,rfl,fun j p hp=>by obtain ⟨x,h1,h2,_⟩:=hc j p hp;exact ⟨x,h1,h2,fun hf=>by cases hf⟩⟩
  |bx cells=>
   obtain ⟨b,o,rfl,hc⟩:=this
   exact ⟨b,o,rfl,fun j p hp=>by obtain ⟨x,h1,h2,_⟩:=hc j p hp;exact ⟨x,h1,h2,fun hf=>by cases hf⟩⟩
  |sl k lb=>exact this
  |us b=>exact this
  |dead=>exact this
 ·obtain ⟨m,hm,rfl⟩:=hg i n hn
  exact h.lt i u m hu hm k hk
 ·obtain ⟨m,_,rfl⟩:=hg i n hn;cases hm
 ·obtain ⟨m',_,rfl⟩:=hg i n hn;cases hm
def RT.leafV:RT β→Option Value
 |.leaf x _=>valS (some x)
 |_=>none
def inl (S:Sy β) (L:Lps β) (fn:Func) (close:Bool):Fn2 β:=fun us mem=>match leb us.length fn.ntmps with
 |true=>(match ybu S L fn us (mem.map Ob.frz) with
  |.leaf x _=>(match valS (some x) with|some v=>some ([],x,none)|none=>none)
  |_=>none)
 |false=>none
theorem scalar_is {e e':Env} {x:SV} {v:Value} (h:valS (some x)=some v):x.is e v:=by
 have key:∀ (xs:List PV) (us:List Value),mapO valP xs=some us→AllIs e xs us:=by
  intro xs
  induction xs with
  |nil=>intro us h;simp only [mapO,Option.some.injEq] at h;subst h;trivial
  |cons p ps ih=>
   intro us h
   simp only [mapO] at h
   split at h
   ·cases h
   ·rename_i y hy
    split at h
    ·cases h
    ·rename_i ys hys
     simp only [Option.some.injEq] at h
     subst h
     exact ⟨is_valP hy,ih ys hys⟩
 have keyC:∀ (c:CV) (u:Value),valC c=some u→c.is e u:=by
  intro c u h
  cases c with
  |fn f ca=>cases h
  |one p=>exact is_valP h
  |agg cs=>
   simp only [valC] at h
   split at h
   ·rename_i xs hxs
    simp only [Option.some.injEq] at h
    subst h
    exact ⟨xs,key _ _ hxs,rfl⟩
   ·cases h
 have keyL:∀ (xs:List CV) (us:List Value),mapO valC xs=some us→AllC e xs us:=by
  intro xs
  induction xs with
  |nil=>intro us h;simp only [mapO,Option.some.injEq] at h;subst h;trivial
  |cons p ps ih=>
   intro us h
   simp only [mapO] at h
   split at h
   ·cases h
   ·rename_i y hy
    split at h
    ·cases h
    ·rename_i ys hys
     simp only [Option.some.injEq] at h
     subst h
     exact ⟨keyC _ _ hy,ih ys hys⟩
 unfold valS at h
 split at h
 ·rename_i c hc
  cases hc
  exact keyC _ _ h
 ·rename_i xs hc
  cases hc
  split at h
  ·rename_i us hus
   simp only [Option.some.injEq] at h
   subst h
   exact ⟨us,keyL _ _ hus,rfl⟩
  ·cases h
 ·cases h
theorem FnsOk.consI {S':Sy β} {L':Lps β} {f:FuncId} {fn:Func} {cl:Bool} (he:∀ us w,(callFunc f us).run P w=.ok (.enter f us) w) (hP:S'.P=P) (hf:P.funcs[f]? =some fn) (hb:fn.body=some (yat fn))
  (hS':∀ w,SyOk S' I w (fun _=>False)) (hL':∀ w,LpsOk S' I w (fun _=>False) L' fn.ntmps (yat fn)) (ht:FnsOk P I W0 G F):FnsOk P I W0 G ((f,inl S' L' fn cl)::F):=by
 subst hP
 exact FnsOk.cons he (fun args mem ps r mo hr hp w e us hM ha=>by
  unfold inl at hr
  split at hr
  ·rename_i hle
   split at hr
   ·rename_i x s hrun
    split at hr
    ·rename_i v hv
     simp only [Option.some.injEq,Prod.mk.injEq] at hr
     obtain ⟨rfl,rfl,rfl⟩:=hr
     refine yeo (hS' w) hf hb (hL' w) ha hle hM.freeze (K:=fun y _=>y=x) (by rw [hrun];rfl) fun y s e' w' u _ hy hu hM'=>?_
     subst hy
     have:u=v:=yg1 hv fun z hz=>by cases hz;exact hu
     exact ⟨u,rfl,by rw [this];exact scalar_is (e':=e) hv,hM'.mod⟩
    ·cases hr
   ·cases hr
  ·cases hr) ht
def yck:Ho β:=⟨fun _ _ _=>none,fun _ _ _=>none,fun _=>false,false,[]⟩
theorem SyOk.mk' {E:EqFns} {fuel:Nat} (hm:P.follows .mixedOrders=true) (hF:FnsOk P I W0 G F) (hE:∀ ty g,ygw ty E=some g→P.eqGuardType P.depth ty=false∧∀ (u v:Array Value) b,g u.toList v.toList=some b→∀ w,(Op.equal ty (.agg u) (.agg v)).run P w=.ok b w):
  SyOk (⟨P,F,E,yck,I.one,fuel⟩:Sy β) I W0 G:=⟨⟨hm,rfl,hF,hE,(fun t args mem ps r m' h=>by cases h),(fun op args mem ps r mo h=>by cases h),(fun h=>by cases h),(fun h=>by cases h),(fun h=>by cases h),(fun h=>by cases h),(fun h=>by cases h),(fun h=>by cases h),(fun h=>by cases h)⟩,fun h=>by cases h⟩
def noI:ObI Unit:=.mk1 (fun _ _ _=>False) (fun _ _ _ _=>False) (fun _=>false) (fun _ _ _ h=>h.elim) (fun _ _ _ h=>h.elim)
theorem ybx (I:ObI β) (w:World):MemOk w (fun _=>False) I w [] []:=
 ⟨rfl,fun i u n h=>by simp at h,fun i u n h=>by simp at h,fun i u n h=>by simp at h,fun i j u v n m h=>by simp at h,Mod.refl _ w,fun i u n h=>by simp at h⟩
theorem EqsOk.nil {P:Program}:∀ ty g,ygw ty []=some g→P.eqGuardType P.depth ty=false∧∀ (u v:Array Value) b,g u.toList v.toList=some b→∀ w,(Op.equal ty (.agg u) (.agg v)).run P w=.ok b w:=fun ty g h=>by cases h
theorem EqsOk.cons {P:Program} {E:EqFns} {ty:TypeId} {g:List Value→List Value→Option Bool} (he:P.eqGuardType P.depth ty=false)
  (h:∀ (u v:Array Value) b,g u.toList v.toList=some b→∀ w,(Op.equal ty (.agg u) (.agg v)).run P w=.ok b w)
  (ht:∀ ty g,ygw ty E=some g→P.eqGuardType P.depth ty=false∧∀ (u v:Array Value) b,g u.toList v.toList=some b→∀ w,(Op.equal ty (.agg u) (.agg v)).run P w=.ok b w):
  ∀ ty' g',ygw ty' ((ty,g)::E)=some g'→P.eqGuardType P.depth ty'=false∧∀ (u v:Array Value) b,g' u.toList v.toList=some b→∀ w,(Op.equal ty' (.agg u) (.agg v)).run P w=.ok b w:=fun ty' g' hg=>by
 simp only [ygw] at hg
 split at hg
 ·rename_i hb
  have:=eqb_eq.1 hb
  subst this
  simp only [Option.some.injEq] at hg
  subst hg
  exact ⟨he,h⟩
 ·exact ht ty' g' hg
end
def scP (n:Nat):PV→Bool
 |.ptr i _=>leb (i+1) n
 |.elt i _ _ _=>leb (i+1) n
 |.obj i=>leb (i+1) n
 |.sub i _ _ _=>leb (i+1) n
 |.win i _ _ _ _ _=>leb (i+1) n
 |_=>true
def scC (n:Nat):CV→Bool
 |.one p=>scP n p
 |.agg cs=>allB (scP n) cs
 |.fn _ ca=>allB (scP n) ca
def scS (n:Nat):SV→Bool
 |.c x=>scC n x
 |.tup xs=>allB (scC n) xs
 |.fn _ a b=>allB (scP n) a&&allB (scP n) b
 |.gd _ x=>scS n x
def ycm (n:Nat):List (Nat×SV)→Bool
 |[]=>true
 |(_,x)::r=>scS n x&&ycm n r
def vS:SV→SV
 |.c (.one (.kI k n))=>svV (.int k n)
 |.c (.one (.kB b))=>svV (.bool b)
 |.c (.one (.kS s))=>svV (.string s)
 |x=>x
def EqO:Option SV→Option SV→Prop
 |some x,some y=>vS x=vS y
 |none,none=>True
 |_,_=>False
def FitL:List (Nat×SV)→List (Nat×SV)→Prop
 |[],_=>True
 |(t,x)::r,b=>EqO (yab t b) (some x)∧FitL r b
theorem vS_is {e:Env} {x:SV} {u:Value}:(vS x).is e u↔x.is e u:=by
 unfold vS
 split<;>exact Iff.rfl
theorem EqO.refl (a:Option SV):EqO a a:=by cases a<;>simp [EqO]
theorem EqO.symm {a b:Option SV} (h:EqO a b):EqO b a:=by
 cases a<;>cases b<;>first|exact h|exact (Eq.symm h)
theorem EqO.trans {a b c:Option SV} (h:EqO a b) (k:EqO b c):EqO a c:=by
 cases a<;>cases b<;>cases c<;>first|exact trivial|exact h.elim|exact k.elim|exact (Eq.trans h k)
def yb9:List Nat→List (Nat×SV)→List (Nat×SV)
 |[],r=>r
 |t::ts,r=>(t,anyS)::yb9 ts r
theorem yoz {e:Env} {n:Nat} {p:PV} {u:Value} (h:scP n p=true) (hu:p.is e u):p.is (e.take n) u:=by
 have key:∀ (i:Nat) (x:Value),leb (i+1) n=true→e[i]? =some x→(e.take n)[i]? =some x:=fun i x hi hx=>by
  rw [zai,if_pos (show i<n from leb_le.1 hi)];exact hx
 cases p with
 |v x=>exact hu
 |kI k m=>exact hu
 |kB b=>exact hu
 |kS s=>exact hu
 |ptr i off=>obtain ⟨b,o,h1,h2⟩:=hu;exact ⟨b,o,key i _ h h1,h2⟩
 |elt i sz idx off=>obtain ⟨b,o,m,c,h1,h2⟩:=hu;exact ⟨b,o,m,c,key i _ h h1,h2⟩
 |obj i=>exact key i _ h hu
 |sub i sz lo hi=>obtain ⟨ao,m,c,h1,h2⟩:=hu;exact ⟨ao,m,c,key i _ h h1,h2⟩
 |win i sz idx off len cap=>obtain ⟨x,b,o,h1,h2⟩:=hu;exact ⟨x,b,o,key i _ h h1,h2⟩
 |any=>trivial
theorem yjx {e:Env} {n:Nat}:∀ {ps:List PV} {us:List Value},allB (scP n) ps=true→AllIs e ps us→AllIs (e.take n) ps us
 |[],[],_,_=>trivial
 |p::ps,u::us,h,⟨h1,h2⟩=>by
  simp only [allB,zbs] at h
  exact ⟨yoz h.1 h1,yjx h.2 h2⟩
 |[],_::_,_,h=>h.elim
 |_::_,[],_,h=>h.elim
theorem scC_is {e:Env} {n:Nat} {c:CV} {u:Value} (h:scC n c=true) (hu:c.is e u):c.is (e.take n) u:=by
 cases c with
 |one p=>exact yoz h hu
 |agg cs=>obtain ⟨us,h1,h2⟩:=hu;exact ⟨us,yjx h h1,h2⟩
 |fn f ca=>obtain ⟨us,h1,h2⟩:=hu;exact ⟨us,yjx h h1,h2⟩
theorem scCs_is {e:Env} {n:Nat}:∀ {ps:List CV} {us:List Value},allB (scC n) ps=true→AllC e ps us→AllC (e.take n) ps us
 |[],[],_,_=>trivial
 |p::ps,u::us,h,⟨h1,h2⟩=>by
  simp only [allB,zbs] at h
  exact ⟨scC_is h.1 h1,scCs_is h.2 h2⟩
 |[],_::_,_,h=>h.elim
 |_::_,[],_,h=>h.elim
theorem scS_is {e:Env} {n:Nat}:∀ {s:SV} {u:Value},scS n s=true→s.is e u→s.is (e.take n) u
 |.c _,_,h,hu=>scC_is h hu
 |.tup _,_,h,⟨us,h1,h2⟩=>⟨us,scCs_is h h1,h2⟩
 |.fn _ _ _,_,h,⟨us,vs,h1,h2,h3⟩=>by
  simp only [scS,zbs] at h
  exact ⟨us,vs,yjx h.1 h1,yjx h.2 h2,h3⟩
 |.gd _ x,_,h,⟨h1,h2⟩=>⟨fun hb=>scS_is (s:=x) h (h1 hb),h2⟩
theorem ycn {n t:Nat} {x:SV}:∀ {b:List (Nat×SV)},ycm n b=true→yab t b=some x→scS n x=true
 |[],_,h=>by cases h
 |(u,y)::r,hs,h=>by
  simp only [ycm,zbs] at hs
  simp only [yab] at h
  split at h
  ·simp only [Option.some.injEq] at h;subst h;exact hs.1
  ·exact ycn hs.2 h
theorem ybt {t:Nat} {r:List (Nat×SV)}:∀ {W:List Nat},(t∈W→yab t (yb9 W r)=some anyS)∧(t ∉ W→yab t (yb9 W r)=yab t r)
 |[]=>⟨(fun h=>by cases h),fun _=>rfl⟩
 |u::W=>by
  refine ⟨fun h=>?_,fun h=>?_⟩
  ·simp only [yb9,yab]
   cases he:eqb u t with
   |true=>rfl
   |false=>
    rcases List.mem_cons.1 h with rfl|h
    ·rw [eqb_eq.2 rfl] at he;cases he
    ·exact (ybt (W:=W)).1 h
  ·simp only [yb9,yab]
   rw [ymk (fun e=>h (by rw [e];exact zal ..))]
   exact (ybt (W:=W)).2 fun hm=>h (zak _ hm)
theorem ya0 {t:Nat} {r:List (Nat×SV)}:∀ {pre:List (Nat×SV)},(∃ x,yab t pre=some x∧yab t (pre++r)=some x)∨(yab t pre=none∧yab t (pre++r)=yab t r)
 |[]=>.inr ⟨rfl,rfl⟩
 |(u,x)::pre=>by
  rw [List.cons_append]
  simp only [yab]
  cases eqb u t with
  |true=>exact .inl ⟨x,rfl,rfl⟩
  |false=>exact ya0
theorem ya3 {t:Nat} {x:SV}:∀ {pre:List (Nat×SV)},yab t pre=some x→(t,x)∈pre
 |[],h=>by cases h
 |(u,y)::pre,h=>by
  simp only [yab] at h
  split at h
  ·rename_i he
   simp only [Option.some.injEq] at h
   rw [eqb_eq.1 he,h];exact zal ..
  ·exact zak _ (ya3 h)
theorem FitL.mem {b:List (Nat×SV)}:∀ {U:List (Nat×SV)},FitL U b→∀ p∈U,EqO (yab p.1 b) (some p.2)
 |[],_,p,hp=>by cases hp
 |(t,x)::r,⟨h1,h2⟩,p,hp=>by
  rcases List.mem_cons.1 hp with rfl|hp
  ·exact h1
  ·exact FitL.mem h2 p hp
def yf0 (W:List Nat):List (Nat×SV)→Bool
 |[]=>true
 |(t,_)::r=>memN t W&&yf0 W r
theorem yew {W:List Nat}:∀ {U:List (Nat×SV)},yf0 W U=true→∀ p∈U,p.1∈W
 |[],_,p,hp=>by cases hp
 |(t,x)::r,h,p,hp=>by
  simp only [yf0,zbs] at h
  rcases List.mem_cons.1 hp with rfl|hp
  ·exact memN_iff.1 h.1
  ·exact yew h.2 p hp
section
variable {β:Type} {S:Sy β} {I:ObI β} {W0:World} {G:Nat→Prop} {L:Lps β} {sz:Nat}
def ScMem (n:Nat) (mem:Mem β):Prop:=∀ en∈mem,match en.ob with
 |.blk cells=>allB (scP n) cells=true
 |.bx cells=>allB (scP n) cells=true
 |.sl k _=>∀ i,allB (scP n) (k.cells i)=true
 |_=>True
theorem MemOk.take {w:World} {e:Env} {mem:Mem β} {n:Nat} (h:MemOk W0 G I w e mem) (hs:ScMem n (mem.take n)):MemOk W0 G I w (e.take n) (mem.take n):=by
 have he:∀ (i:Nat) (u:Value),(e.take n)[i]? =some u→i<n∧e[i]? =some u:=fun i u hu=>by
  rw [zai] at hu
  split at hu
  ·exact ⟨by assumption,hu⟩
  ·cases hu
 have hm:∀ (i:Nat) (u:En β),(mem.take n)[i]? =some u→i<n∧mem[i]? =some u:=fun i u hu=>by
  rw [zai] at hu
  split at hu
  ·exact ⟨by assumption,hu⟩
  ·cases hu
 refine ⟨by simp [h.len],fun i u m hu hmm=>?_,fun i u m hu hmm=>h.lt i u m (he i u hu).2 (hm i m hmm).2,fun i u m hu hmm=>h.own i u m (he i u hu).2 (hm i m hmm).2,
  fun i j u v m m' hu hmm hmu hv hmv=>h.sep i j u v m m' (he i u hu).2 (hm i m hmm).2 hmu (he j v hv).2 (hm j m' hmv).2,h.mod,fun i u m hu hmm=>h.rd i u m (he i u hu).2 (hm i m hmm).2⟩
 have hh:=h.holds i u m (he i u hu).2 (hm i m hmm).2
 have hsc:=hs m (zaj hmm)
 obtain ⟨ob,mu⟩:=m
 cases ob with
 |blk cells=>
  obtain ⟨b,o,rfl,hc⟩:=hh
  refine ⟨b,o,rfl,fun j p hp=>?_⟩
  obtain ⟨x,h1,h2,h3⟩:=hc j p hp
  exact ⟨x,h1,yoz (yct hsc p (zaj hp)) h2,h3⟩
 |bx cells=>
  obtain ⟨b,o,rfl,hc⟩:=hh
  refine ⟨b,o,rfl,fun j p hp=>?_⟩
  obtain ⟨x,h1,h2,h3⟩:=hc j p hp
  exact ⟨x,h1,yoz (yct hsc p (zaj hp)) h2,h3⟩
 |sl k lb=>
  obtain ⟨ao,cap,rfl,h1,h2,h3,h4⟩:=hh
  refine ⟨ao,cap,rfl,h1,h2,h3,fun a ha=>⟨(h4 a ha).1,fun i hi j p hp=>?_⟩⟩
  obtain ⟨x,g1,g2⟩:=(h4 a ha).2 i hi j p hp
  exact ⟨x,g1,yoz (yct (hsc i) p (zaj hp)) g2⟩
 |us b=>exact hh
 |dead=>exact hh
def rSt (W:List Nat) (V R base:List (Nat×SV)) (mem:Mem β) (ver:Nat):SSt β:=⟨V++yb9 W (R++base),mem,ver⟩
def xSt (W:List Nat) (U:List (Nat×SV)) (s:SSt β):SSt β:=⟨U++yb9 W s.base,s.mem,s.ver⟩
theorem ylx {W:List Nat} {U R base b:List (Nat×SV)} {n:Nat} {e:Env} {a:Act} (hf:FrOk [] b e a sz) (hU:FitL U b) (hsU:ycm n U=true) (hsR:ycm n R=true) (hsb:ycm n base=true) (hR:FitL R base)
  (hb:∀ t,t ∉ W→yab t b=yab t (R++base)∨yab t b=yab t base):FrOk [] (U++yb9 W (R++base)) (e.take n) a sz∧FrOk [] (U++yb9 W base) (e.take n) a sz:=by
 have slot:∀ t x,EqO (yab t b) (some x)→scS n x=true→x.is (e.take n) (a.tmps.getD t undef):=fun t x hx hsx=>by
  have:=hf.slot t
  cases hy:yab t b with
  |none=>rw [hy] at hx;exact hx.elim
  |some y=>
   simp only [ybb,yas,hy] at this
   rw [hy] at hx
   have hx':vS y=vS x:=hx
   exact scS_is hsx (vS_is.1 (hx'▸vS_is.2 this))
 have none':∀ t,yab t b=none→a.tmps.getD t undef=undef:=fun t hx=>by
  have:=hf.slot t
  simpa only [ybb,yas,hx] using this
 have hRe:∀ t,EqO (yab t (R++base)) (yab t base):=fun t=>by
  rcases ya0 (t:=t) (r:=base) (pre:=R) with ⟨y,h1,h2⟩|⟨_,h2⟩
  ·rw [h2];exact (hR.mem _ (ya3 h1)).symm
  ·rw [h2];exact EqO.refl _
 have hRs:∀ t x,yab t (R++base)=some x→scS n x=true:=fun t x hx=>by
  rcases ya0 (t:=t) (r:=base) (pre:=R) with ⟨y,h1,h2⟩|⟨_,h2⟩
  ·rw [hx] at h2;cases h2;exact ycn hsR h1
  ·rw [hx] at h2;exact ycn hsb h2.symm
 have key:∀ (r:List (Nat×SV)),(∀ t,EqO (yab t r) (yab t base))→(∀ t x,yab t r=some x→scS n x=true)→FrOk [] (U++yb9 W r) (e.take n) a sz:=fun r hr hrs=>by
  refine ⟨hf.defers,hf.size,fun t=>?_⟩
  simp only [ybb,yas]
  rcases ya0 (t:=t) (r:=yb9 W r) (pre:=U) with ⟨x,h1,h2⟩|⟨_,h2⟩
  ·rw [h2]
   exact slot t x (hU.mem _ (ya3 h1)) (ycn hsU h1)
  ·rw [h2]
   by_cases ht:t∈W
   ·rw [(ybt (W:=W)).1 ht];trivial
   ·rw [(ybt (W:=W)).2 ht]
    have hbt:EqO (yab t b) (yab t r):=by
     refine EqO.trans ?_ (hr t).symm
     rcases hb t ht with h|h
     ·rw [h];exact hRe t
     ·rw [h];exact EqO.refl _
    cases hx:yab t r with
    |some x=>exact slot t x (by rw [← hx];exact hbt) (hrs t x hx)
    |none=>
     rw [hx] at hbt
     cases hy:yab t b with
     |none=>exact none' t hy
     |some y=>rw [hy] at hbt;exact hbt.elim
 exact ⟨key _ hRe hRs,key _ (fun _=>EqO.refl _) fun t x hx=>ycn hsb hx⟩
def RK (M0:Mem β) (V:Nat→List (Nat×SV)) (N:Nat) (J:Nat→Prop) (U:Nat→SX→Option (List (Nat×SV))) (X:Nat→SX→Prop) (k:Nat) (x:SX) (s':SSt β):Prop:=s'.mem.take M0.length=M0∧match x with
 |.normal=>(k<N∧J (k+1))∧FitL (V (k+1)) s'.base
 |x=>match U k x with
  |some u=>X k x∧FitL u s'.base
  |none=>False
theorem yeu (hS:SyOk S I W0 G) {c:Code} (hL:LpsOk S I W0 G L sz c) {M0:Mem β} {V:Nat→List (Nat×SV)} {R:List (Nat×SV)} {N:Nat} {Ux:Nat→SX→Option (List (Nat×SV))} {X:Nat→SX→Prop} {J:Nat→Prop}
  (hsM:ScMem M0.length M0) (hsR:ycm M0.length R=true) (hV:∀ k,yf0 (yah c) (V k)=true∧ycm M0.length (V k)=true) (hEx:∀ k x U,Ux k x=some U→yf0 (yah c) U=true∧ycm M0.length U=true)
  (hJ:J 0) (hr:∀ k,k≤N→J k→∀ base ver,(symC S L sz c (rSt (yah c) (V k) R base M0 ver)).holds (RK M0 V N J Ux X k))
  {s:SSt β} (hm:s.mem=M0) (h0:FitL (V 0) s.base) (hR:FitL R s.base) (hsb:ycm M0.length s.base=true) {T:Tr β} {K:SX→SSt β→Prop} (hT:T.holds K) (hTx:∀ k x U,k≤N→Ux k x=some U→X k x→T.holds K→K x (xSt (yah c) U s))
  {Q:Exit→Act→World→Prop} {a:Act} {w:World} {e:Env} (hf:FrOk [] s.base e a sz) (hM:MemOk W0 G I w e s.mem)
  (hQ:∀ x s' e' a' w',Grows e e'→K x s'→FrOk [] s'.base e' a' sz→MemOk W0 G I w' e' s'.mem→Q x.exit' a' w'):(Code.loop c).wp S.P Q a w:=by
 subst hm
 have hlen:e.length=s.mem.length:=hM.len
 have main:∀ m k,k+m=N→J k→∀ e' a' w',Grows e e'→e'.length=s.mem.length→FrOk [] (rSt (yah c) (V k) R s.base s.mem s.ver).base e' a' sz→MemOk W0 G I w' e' s.mem→Code.rounds S.P c Q (m+1) a' w':=by
  intro m
  induction m with
  |zero=>
   intro k hk hJk e' a' w' hg hl hf' hM'
   rw [rounds_succ]
   have hafter:=ybj c hL (rSt (yah c) (V k) R s.base s.mem s.ver)
   refine ya9 hS c hL (Tr.holds_all (hr k (by omega) hJk s.base s.ver) hafter) hf' hM' fun x s' e2 a2 w2 hg2 hK hf2 hM2=>?_
   obtain ⟨⟨hmem,hK⟩,haf⟩:=hK
   obtain ⟨pre,hpre,hprew⟩:=haf.suf
   have hb:∀ t,t ∉ yah c→yab t s'.base=yab t (R++s.base)∨yab t s'.base=yab t s.base:=fun t ht=>.inl (by
    rw [hpre]
    rcases ya0 (t:=t) (r:=(rSt (yah c) (V k) R s.base s.mem s.ver).base) (pre:=pre) with ⟨y,h1,_⟩|⟨_,h2⟩
    ·exact absurd (hprew _ (ya3 h1)) ht
    ·rw [h2]
     simp only [rSt]
     rcases ya0 (t:=t) (r:=yb9 (yah c) (R++s.base)) (pre:=V k) with ⟨y,h1,_⟩|⟨_,h3⟩
     ·exact absurd (yew (hV k).1 _ (ya3 h1)) ht
     ·rw [h3];exact (ybt (W:=yah c)).2 ht)
   cases x with
   |normal=>exact absurd hK.1.1 (by omega)
   |exit id=>
    simp only at hK
    split at hK
    case h_2=>exact hK.elim
    rename_i U hU1
    obtain ⟨hX,hU2⟩:=hK
    obtain ⟨q1,q2⟩:=hEx _ _ _ hU1
    have hfw:=(ylx (W:=yah c) hf2 hU2 q2 hsR hsb hR hb).2
    have hMt:MemOk W0 G I w2 (e2.take s.mem.length) (s'.mem.take s.mem.length):=hM2.take (by rw [hmem];exact hsM)
    rw [hmem] at hMt
    exact hQ (.exit id) (xSt (yah c) U s) (e2.take s.mem.length) a2 w2 (fun i x hx=>by
     have hi:=(zab.1 hx).1
     rw [zai,if_pos (by omega)];exact hg2 i x (hg i x hx)) (hTx k _ U (by omega) hU1 hX hT) hfw hMt
   |ret=>
    simp only at hK
    split at hK
    case h_2=>exact hK.elim
    rename_i U hU1
    obtain ⟨hX,hU2⟩:=hK
    obtain ⟨q1,q2⟩:=hEx _ _ _ hU1
    have hfw:=(ylx (W:=yah c) hf2 hU2 q2 hsR hsb hR hb).2
    have hMt:MemOk W0 G I w2 (e2.take s.mem.length) (s'.mem.take s.mem.length):=hM2.take (by rw [hmem];exact hsM)
    rw [hmem] at hMt
    exact hQ .ret (xSt (yah c) U s) (e2.take s.mem.length) a2 w2 (fun i x hx=>by
     have hi:=(zab.1 hx).1
     rw [zai,if_pos (by omega)];exact hg2 i x (hg i x hx)) (hTx k _ U (by omega) hU1 hX hT) hfw hMt
  |succ m ih=>
   intro k hk hJk e' a' w' hg hl hf' hM'
   rw [rounds_succ]
   have hafter:=ybj c hL (rSt (yah c) (V k) R s.base s.mem s.ver)
   refine ya9 hS c hL (Tr.holds_all (hr k (by omega) hJk s.base s.ver) hafter) hf' hM' fun x s' e2 a2 w2 hg2 hK hf2 hM2=>?_
   obtain ⟨⟨hmem,hK⟩,haf⟩:=hK
   obtain ⟨pre,hpre,hprew⟩:=haf.suf
   have hb:∀ t,t ∉ yah c→yab t s'.base=yab t (R++s.base)∨yab t s'.base=yab t s.base:=fun t ht=>.inl (by
    rw [hpre]
    rcases ya0 (t:=t) (r:=(rSt (yah c) (V k) R s.base s.mem s.ver).base) (pre:=pre) with ⟨y,h1,_⟩|⟨_,h2⟩
    ·exact absurd (hprew _ (ya3 h1)) ht
    ·rw [h2]
     simp only [rSt]
     rcases ya0 (t:=t) (r:=yb9 (yah c) (R++s.base)) (pre:=V k) with ⟨y,h1,_⟩|⟨_,h3⟩
     ·exact absurd (yew (hV k).1 _ (ya3 h1)) ht
     ·rw [h3];exact (ybt (W:=yah c)).2 ht)
   have hMt:MemOk W0 G I w2 (e2.take s.mem.length) (s'.mem.take s.mem.length):=hM2.take (by rw [hmem];exact hsM)
   have hlt:(e2.take s.mem.length).length=s.mem.length:=by rw [hMt.len,hmem]
   rw [hmem] at hMt
   have hgt:Grows e (e2.take s.mem.length):=fun i x hx=>by
     have hi:=(zab.1 hx).1
     rw [zai,if_pos (by omega)];exact hg2 i x (hg i x hx)
   cases x with
   |normal=>
    obtain ⟨⟨_,hJ1⟩,hfit⟩:=hK
    exact ih (k+1) (by omega) hJ1 _ a2 w2 hgt hlt (ylx (W:=yah c) hf2 hfit (hV (k+1)).2 hsR hsb hR hb).1 hMt
   |exit id=>
    simp only at hK
    split at hK
    case h_2=>exact hK.elim
    rename_i U hU1
    obtain ⟨hX,hU2⟩:=hK
    obtain ⟨q1,q2⟩:=hEx _ _ _ hU1
    exact hQ (.exit id) (xSt (yah c) U s) _ a2 w2 hgt (hTx k _ U (by omega) hU1 hX hT) (ylx (W:=yah c) hf2 hU2 q2 hsR hsb hR hb).2 hMt
   |ret=>
    simp only at hK
    split at hK
    case h_2=>exact hK.elim
    rename_i U hU1
    obtain ⟨hX,hU2⟩:=hK
    obtain ⟨q1,q2⟩:=hEx _ _ _ hU1
    exact hQ .ret (xSt (yah c) U s) _ a2 w2 hgt (hTx k _ U (by omega) hU1 hX hT) (ylx (W:=yah c) hf2 hU2 q2 hsR hsb hR hb).2 hMt
 have hst:=(ylx (W:=yah c) hf h0 (hV 0).2 hsR hsb hR (fun t _=>.inr rfl)).1
 have he:e.take s.mem.length=e:=by rw [← hlen];exact List.take_length
 rw [he] at hst
 exact wp_loop_rounds (N+1) (main N 0 (by omega) hJ e a w (Grows.refl e) hlen hst hM)
theorem yb2 {W:List Nat} {U:List (Nat×SV)} {s:SSt β} (h:yf0 W U=true):After (·∈W) s (xSt W U s):=by
 have key:∀ (ts:List Nat),(∀ t∈ts,t∈W)→∃ pre,yb9 ts s.base=pre++s.base∧∀ p∈pre,p.1∈W:=by
  intro ts
  induction ts with
  |nil=>intro _;exact ⟨[],rfl,fun p hp=>by cases hp⟩
  |cons t ts ih=>
   intro ht
   obtain ⟨pre,h1,h2⟩:=ih fun u hu=>ht u (zak _ hu)
   refine ⟨(t,anyS)::pre,by simp only [yb9];rw [h1];rfl,fun p hp=>?_⟩
   rcases List.mem_cons.1 hp with rfl|hp
   ·exact ht t (zal ..)
   ·exact h2 p hp
 obtain ⟨pre,h1,h2⟩:=key W fun t h=>h
 refine ⟨⟨U++pre,by simp only [xSt];rw [h1,List.append_assoc],fun p hp=>?_⟩,zbm _,fun _=>rfl⟩
 rcases zbe.1 hp with hp|hp
 ·exact yew h p hp
 ·exact h2 p hp
end
section
variable {β:Type} {S:Sy β} {I:ObI β} {W0:World} {G:Nat→Prop} {L:Lps β} {P:Program} {w w':World} {e e':Env} {mem mem':Mem β}
def memO (d:Nat):List (Option Nat)→Bool
 |[]=>false
 |none::xs=>memO d xs
 |some x::xs=>eqb x d||memO d xs
def nilV:Value:=.slice none 0 0
def enOf (nl:β) (mem:Mem β):Option Nat→En β
 |some i=>(match mem[i]? with|some n=>n|none=>⟨.dead,false⟩)
 |none=>⟨.us nl,true⟩
def evOf (e:Env):Option Nat→Value
 |some i=>(match e[i]? with|some u=>u|none=>nilV)
 |none=>nilV
def isUs (n:En β):Bool:=match n.ob with
 |.us _=>true
 |_=>false
theorem memO_mem {d:Nat}:∀ {xs:List (Option Nat)},memO d xs=true↔some d∈xs
 |[]=>by simp [memO]
 |none::xs=>by simp [memO,memO_mem (xs:=xs)]
 |some x::xs=>by
  simp only [memO,Bool.or_eq_true,memO_mem (xs:=xs),List.mem_cons,Option.some.injEq,eqb_eq]
  constructor
  ·rintro (h|h)
   ·exact .inl h.symm
   ·exact .inr h
  ·rintro (h|h)
   ·exact .inl h.symm
   ·exact .inr h
def Picks (k:Nat) (e:Env) (xs:List (Option Nat)):Prop:=(∀ i,some i∈xs→k≤i∧i<e.length)∧∀ (j j' i:Nat),xs[j]? =some (some i)→xs[j']? =some (some i)→j=j'
def pEnv (k:Nat) (e:Env) (xs:List (Option Nat)):Env:=e.take k++xs.map (evOf e)
theorem Picks.nil (k:Nat) (e:Env):Picks k e []:=⟨(fun i h=>by cases h),fun j j' i h=>by simp at h⟩
theorem pEnv_len {k:Nat} (hk:k≤e.length) (xs:List (Option Nat)):(pEnv k e xs).length=k+xs.length:=by simp [pEnv];omega
theorem yie {k:Nat} (hk:k≤e.length) (xs:List (Option Nat)) {i:Nat} (hi:i<k):(pEnv k e xs)[i]? =e[i]? :=by
 unfold pEnv
 rw [List.getElem?_append_left (by simp;omega),zai,if_pos hi]
theorem yr1 {k:Nat} (hk:k≤e.length) (xs:List (Option Nat)) (j:Nat):(pEnv k e xs)[k+j]? =(xs[j]?).map (evOf e):=by
 unfold pEnv
 rw [List.getElem?_append_right (by simp;omega),zan]
 congr 2
 simp;omega
theorem ynu {α γ:Type} {f:α→γ} {l:List α} {j:Nat} {y:γ} (h:(l.map f)[j]? =some y):∃ x,l[j]? =some x∧f x=y:=by
 rw [zan] at h
 cases hl:l[j]? with
 |none=>rw [hl] at h;cases h
 |some x=>rw [hl] at h;simp at h;exact ⟨x,rfl,h⟩
def LeE (I:ObI β) (n m:En β):Prop:=n.mu=m.mu∧∀ (e:Env) (w:World) (u:Value),(Holds I e w u n.mu n.ob→Holds I e w u m.mu m.ob)∧(∀ k,Foot I w u m.ob k→Foot I w u n.ob k)∧∀ k,Own I w u m.ob k→Own I w u n.ob k
def LeM (I:ObI β) (a b:Mem β):Prop:=a.length=b.length∧∀ (i:Nat) (n m:En β),a[i]? =some n→b[i]? =some m→LeE I n m
theorem LeM.ok {a b:Mem β} (h:LeM I a b) (hM:MemOk W0 G I w e a):MemOk W0 G I w e b:=by
 have hg:∀ (i:Nat) (m:En β),b[i]? =some m→∃ n,a[i]? =some n∧LeE I n m:=fun i m hm=>by
  have hl:i<a.length:=by rw [h.1];exact (zab.1 hm).1
  exact ⟨a[i],zaa hl,h.2 i _ m (zaa hl) hm⟩
 refine ⟨by rw [hM.len,h.1],fun i u m hu hm=>?_,fun i u m hu hm k hk=>?_,fun i u m hu hm hmu k hk=>?_,fun i j u v m1 m2 hu hm1 hmu hv hm2 hij k hk1 hk2=>?_,hM.mod,fun i u m hu hm k hk=>?_⟩
 ·obtain ⟨n,hn,h1,h2⟩:=hg i m hm
  exact (h2 e w u).1 (hM.holds i u n hu hn)
 ·obtain ⟨n,hn,h1,h2⟩:=hg i m hm
  exact hM.lt i u n hu hn k ((h2 e w u).2.1 k hk)
 ·obtain ⟨n,hn,h1,h2⟩:=hg i m hm
  exact hM.own i u n hu hn (h1.trans hmu) k ((h2 e w u).2.2 k hk)
 ·obtain ⟨n1,hn1,h1,h2⟩:=hg i m1 hm1
  obtain ⟨n2,hn2,g1,g2⟩:=hg j m2 hm2
  exact hM.sep i j u v n1 n2 hu hn1 (h1.trans hmu) hv hn2 hij k ((h2 e w u).2.2 k hk1) ((g2 e w v).2.1 k hk2)
 ·obtain ⟨n,hn,h1,h2⟩:=hg i m hm
  exact hM.rd i u n hu hn k ((h2 e w u).2.1 k hk)
theorem LeE.refl (I:ObI β) (n:En β):LeE I n n:=⟨rfl,fun _ _ _=>⟨id,fun _=>id,fun _=>id⟩⟩
end
end Go.Proofs.Ytiiekgcjilelpaa
