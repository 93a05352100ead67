/- H1. -/
import Derived.Test.YtiiekgcjilelpaaT17p
import Derived.Test.YtiiekgcjilelpaaF2p
import Derived.Test.YtiiekgcjilelpaaG3p
open List renaming getElem?_eq_getElem → zaa, getElem?_eq_some_iff → zab, getElem?_append_right → zac, getD_eq_getElem?_getD → zaf, getElem?_map → zan
open Nat renaming le_trans → zbl
open Array renaming getElem?_eq_some_iff → zbp
set_option linter.unusedSimpArgs false
set_option linter.unusedVariables false
namespace Go.Proofs.Ytiiekgcjilelpaa
open Go.RowKit
structure Rw where
 is:List Int
 ss:List ByteArray
def Rw.zero:Rw:=⟨[],[]⟩
def rwGo (is:List Int) (ss:List ByteArray):List Bool→Nat→Nat→List Value
 |[],_,_=>[]
 |false::ks,i,s=>.int .i64 (is.getD i 0)::rwGo is ss ks (i+1) s
 |true::ks,i,s=>.string (ss.getD s ⟨#[]⟩)::rwGo is ss ks i (s+1)
def rwV (ks:List Bool) (r:Rw):List Value:=rwGo r.is r.ss ks 0 0
theorem ynb {is:List Int} {ss:List ByteArray}:∀ (ks:List Bool) (i s:Nat),(rwGo is ss ks i s).length=ks.length
 |[],_,_=>rfl
 |false::ks,i,s=>congrArg (·+1) (ynb ks (i+1) s)
 |true::ks,i,s=>congrArg (·+1) (ynb ks i (s+1))
theorem ydb (ks:List Bool) (r:Rw):(rwV ks r).length=ks.length:=ynb ks 0 0
theorem yna {is:List Int} {ss:List ByteArray}:∀ (ks:List Bool) (i s:Nat),∀ v∈rwGo is ss ks i s,v.oneCell'=true
 |[],_,_,v,h=>by cases h
 |false::ks,i,s,v,h=>by
  rcases List.mem_cons.1 h with rfl|h
  ·rfl
  ·exact yna ks (i+1) s v h
 |true::ks,i,s,v,h=>by
  rcases List.mem_cons.1 h with rfl|h
  ·rfl
  ·exact yna ks i (s+1) v h
inductive FL where
 |secs (L:List (List UInt8))
 |pens (Q:List (Int×List UInt8))
 |rw (t:TypeId) (ks:List Bool) (R:List Rw)
def FL.t:FL→TypeId
 |.secs _=>251
 |.pens _=>253
 |.rw t _ _=>t
def FL.sz:FL→Nat
 |.secs _=>128
 |.pens _=>129
 |.rw _ ks _=>ks.length
def FL.R:FL→List (List Value)
 |.secs L=>L.map fun l=>l.map bv
 |.pens Q=>Q.map fun q=>.int .i64 q.1::q.2.map bv
 |.rw _ ks R=>R.map (rwV ks)
def FL.n:FL→Nat
 |.secs L=>L.length
 |.pens Q=>Q.length
 |.rw _ _ R=>R.length
theorem FL.len (x:FL):x.R.length=x.n:=by cases x<;>simp [FL.R,FL.n]
inductive CD where
 |v (x:Value)
 |bs (l:List UInt8)
 |ns (l:List Int)
def CD.holds:CD→World→Value→Prop
 |.v x,_,y=>y=x
 |.bs l,w,y=>Bs w y l
 |.ns l,w,y=>Is w y l
def CD.far:CD→Prop
 |.v _=>False
 |.bs l=>l≠[]
 |.ns l=>l≠[]
inductive TB where
 |bs (L:List (List UInt8))
 |wq (t:TypeId) (Q:List (Int×List UInt8))
def TB.t:TB→TypeId
 |.bs _=>37
 |.wq t _=>t
def TB.k:TB→Nat
 |.bs _=>0
 |.wq _ _=>1
def TB.R:TB→List (List Value×List UInt8)
 |.bs L=>L.map fun l=>([],l)
 |.wq _ Q=>Q.map fun q=>([.int .i64 q.1],q.2)
def TB.n:TB→Nat
 |.bs L=>L.length
 |.wq _ Q=>Q.length
def TB.byt:TB→Int→List UInt8
 |.bs L,i=>L.getD i.toNat []
 |.wq _ Q,i=>(Q.getD i.toNat (0,[])).2
def TB.int:TB→Int→Int
 |.bs _,_=>0
 |.wq _ Q,i=>(Q.getD i.toNat (0,[])).1
def elB (R:List (List Value×List UInt8)) (i:Int):List Value×List UInt8:=R.getD i.toNat ([],[])
theorem TB.len (x:TB):x.R.length=x.n:=by cases x<;>simp [TB.R,TB.n]
theorem TB.byt_eq (x:TB) (i:Int):(elB x.R i).2=x.byt i:=by
 cases x with
 |bs L=>
  simp only [elB,TB.R,TB.byt]
  rw [zaf,zaf,zan]
  cases L[i.toNat]?<;>rfl
 |wq t Q=>
  simp only [elB,TB.R,TB.byt]
  rw [zaf,zaf,zan]
  cases Q[i.toNat]?<;>rfl
theorem TB.int_eq (x:TB) (i:Int) (hk:x.k=1) (hi:i.toNat<x.R.length):(elB x.R i).1=[.int .i64 (x.int i)]:=by
 rw [x.len] at hi
 cases x with
 |bs L=>cases hk
 |wq t Q=>
  have hi:i.toNat<Q.length:=hi
  simp only [elB,TB.R,TB.int]
  rw [zaf,zaf,zan,zaa hi]
  rfl
def mpK (a b:Int):Value:=.agg #[.int .i64 a,.int .i64 b]
def mpV (m:Int):Value:=.int .u16 m
def mpHolds (T:List ((Int×Int)×Int)) (w:World) (u:Value):Prop:=∃ b es clock,u=.map (some b)∧w.heap[b]? =some (.map es clock)∧es.toList.map (fun e=>(e.key,e.val))=T.map fun p=>(mpK p.1.1 p.1.2,mpV p.2)
inductive Dk where
 |mp (T:List ((Int×Int)×Int))
 |big (vs:List Value)
 |flat (x:FL)
 |tab (x:TB)
 |shr (sz n:Nat) (el:Nat→List CD)
 |nums (l:List Int)
 |vw (ks:List Bool) (R:List Rw)
def yc0 (R:List (List Value×List UInt8)) (vals:List Value):List Value:=(List.zipWith (fun r v=>r.1++[v]) R vals).flatten
def yi7 (t:TypeId) (k:Nat) (R:List (List Value×List UInt8)) (w:World) (u:Value):Prop:=(∀ r∈R,r.1.length=k)∧(∀ r∈R,∀ v∈r.1,v.oneCell'=true)∧∃ vals:List Value,vals.length=R.length∧(∃ B,B≤w.heap.size∧w.ownsRow B t (k+1) u R.length (yc0 R vals))∧
   ∀ (i:Nat) (v:Value) (r:List Value×List UInt8),vals[i]? =some v→R[i]? =some r→Bs w v r.2∧∀ kk,r.2≠[]→v.ownBlock=some kk→u.ownBlock≠some kk
def TabAt (w:World) (u:Value) (k i:Nat) (v:Value):Prop:=∃ a n c,u=.slice (some a) n c∧w.cell? (a.add (i * (k+1)+k))=some v
def ym8 (k:Nat) (R:List (List Value×List UInt8)) (w:World) (u:Value) (kk:Nat):Prop:=u.ownBlock=some kk∨∃ i r v,R[i]? =some r∧r.2≠[]∧TabAt w u k i v∧v.ownBlock=some kk
def yfi:Dk→World→Value→Prop
 |.mp T,w,u=>mpHolds T w u
 |.big vs,w,u=>(∀ v∈vs,v.oneCell'=true)∧∃ b t,u=.pointer (some ⟨b,0,none⟩)∧w.heap[b]? =some (.cells vs.toArray t (0,0))
 |.flat x,w,u=>(∀ r∈x.R,r.length=x.sz)∧∃ B,B≤w.heap.size∧w.ownsRow B x.t x.sz u x.R.length x.R.flatten
 |.tab x,w,u=>yi7 x.t x.k x.R w u
 |.shr sz n el,w,u=>0<sz∧∃ vals:List Value,Rs w sz u n vals∧∀ (i j:Nat) (c:CD) (v:Value),i<n→j<sz→(el i)[j]? =some c→vals[i * sz+j]? =some v→c.holds w v
 |.nums l,w,u=>Is w u l
 |.vw ks R,w,u=>0<ks.length∧Rs w ks.length u R.length (R.map (rwV ks)).flatten
def CdAt (w:World) (u:Value) (p:Nat) (v:Value):Prop:=∃ a n c,u=.slice (some a) n c∧w.cell? (a.add p)=some v
def yuj:Dk→World→Value→Nat→Prop
 |.mp _,_,u,kk=>u=.map (some kk)
 |.big _,_,u,kk=>∃ b,u=.pointer (some ⟨b,0,none⟩)∧kk=b
 |.flat _,_,u,kk=>u.ownBlock=some kk
 |.tab x,w,u,kk=>ym8 x.k x.R w u kk
 |.shr sz n el,w,u,kk=>(n≠0∧u.ownBlock=some kk)∨∃ i j c v,i<n∧j<sz∧(el i)[j]? =some c∧c.far∧CdAt w u (i * sz+j) v∧v.ownBlock=some kk
 |.nums l,_,u,kk=>l≠[]∧u.ownBlock=some kk
 |.vw _ R,_,u,kk=>R≠[]∧u.ownBlock=some kk
def dkOwn:Dk→World→Value→Nat→Prop
 |.mp _,_,u,kk=>u=.map (some kk)
 |.big _,_,u,kk=>∃ b,u=.pointer (some ⟨b,0,none⟩)∧kk=b
 |.flat _,_,u,kk=>u.ownBlock=some kk
 |.tab _,_,u,kk=>u.ownBlock=some kk
 |.shr _ _ _,_,_,_=>False
 |.nums _,_,_,_=>False
 |.vw _ _,_,_,_=>False
theorem cdAt_eq {w:World} {u:Value} {p:Nat} {v v':Value} (h:CdAt w u p v) (h':CdAt w u p v'):v=v':=by
 obtain ⟨a,n,c,rfl,h1⟩:=h
 obtain ⟨a',n',c',e,h2⟩:=h'
 cases e
 rw [h1] at h2
 cases h2;rfl
theorem ywq {w:World} {sz n:Nat} {u:Value} {vals:List Value} (h:Rs w sz u n vals) {p:Nat} {v:Value} (hv:vals[p]? =some v):CdAt w u p v:=by
 obtain ⟨h1,ao,cap,rfl,h2,h3,h4,h5⟩:=h
 cases ao with
 |none=>
  have:n=0:=by have:=h4 rfl;omega
  subst this
  have:=(zab.1 hv).1
  omega
 |some a=>exact ⟨a,_,_,rfl,h5 a rfl _ _ hv⟩
theorem yjf {w w':World} {sz:Nat} {u:Value} {vals:List Value} (h:Rs w sz u 0 vals):Rs w' sz u 0 vals:=by
 obtain ⟨h1,ao,cap,rfl,h2,h3,h4,_⟩:=h
 refine ⟨h1,ao,cap,rfl,h2,h3,h4,fun a _ j u hj=>?_⟩
 have:=(zab.1 hj).1
 omega
theorem yrk {i n j sz:Nat} (hi:i<n) (hj:j<sz):i * sz+j<n * sz:=by
 have h1:(i+1) * sz≤n * sz:=Nat.mul_le_mul_right sz hi
 rw [Nat.succ_mul] at h1
 omega
theorem yhi (r:List Value×List UInt8) (R:List (List Value×List UInt8)) (v:Value) (vals:List Value):yc0 (r::R) (v::vals)=r.1++[v]++yc0 R vals:=by
 simp [yc0]
theorem yd6 {k:Nat}:∀ {R:List (List Value×List UInt8)} {vals:List Value},vals.length=R.length→(∀ r∈R,r.1.length=k)→∀ (i:Nat) (v:Value),vals[i]? =some v→(yc0 R vals)[i * (k+1)+k]? =some v
 |[],[],_,_,i,v,h=>by simp at h
 |r::R,v0::vals,hl,hk,i,v,h=>by
  have hr:r.1.length=k:=hk r (List.mem_cons_self ..)
  rw [yhi]
  cases i with
  |zero=>
   simp at h
   subst h
   rw [List.getElem?_append_left (by simp [hr]),zac (by omega)]
   simp [hr]
  |succ i=>
   rw [zac (by simp [hr];rw [Nat.succ_mul];omega)]
   have:=yd6 (k:=k) (R:=R) (vals:=vals) (by simpa using hl) (fun r' h'=>hk r' (List.mem_cons_of_mem _ h')) i v (by simpa using h)
   rw [← this]
   congr 1
   simp [hr]
   rw [Nat.succ_mul]
   omega
 |[],_::_,hl,_,_,_,_=>by simp at hl
 |_::_,[],hl,_,_,_,_=>by simp at hl
theorem yox {w:World} {u:Value} {t:TypeId} {k B:Nat} {R:List (List Value×List UInt8)} {vals:List Value} (hl:vals.length=R.length) (hk:∀ r∈R,r.1.length=k) (ho:w.ownsRow B t (k+1) u R.length (yc0 R vals)) {i:Nat} {v:Value} (hv:vals[i]? =some v):TabAt w u k i v:=by
 have hR:=Rs.of_owns ho
 obtain ⟨ao,cap,rfl,h1,h2,h3,h4,h5⟩:=hR.open
 have hi:i<R.length:=by rw [← hl];exact (zab.1 hv).1
 cases ao with
 |none=>have:=h3 rfl;omega
 |some a=>exact ⟨a,_,_,rfl,h5 a rfl _ _ (yd6 hl hk i v hv)⟩
theorem tabAt_eq {w:World} {u:Value} {k i:Nat} {v v':Value} (h:TabAt w u k i v) (h':TabAt w u k i v'):v=v':=by
 obtain ⟨a,n,c,rfl,h1⟩:=h
 obtain ⟨a',n',c',e,h2⟩:=h'
 cases e
 rw [h1] at h2
 cases h2;rfl
theorem ytd {t:TypeId} {k:Nat} {R:List (List Value×List UInt8)} {w w':World} {u:Value} {F:Nat→Prop} (h:yi7 t k R w u) (hm:Mod F w w') (hf:∀ kk,ym8 k R w u kk→¬ F kk):yi7 t k R w' u∧∀ kk,ym8 k R w' u kk→ym8 k R w u kk:=by
 obtain ⟨h0,h1,vals,hl,⟨B,hB,ho⟩,hr⟩:=h
 have ho':w'.ownsRow B t (k+1) u R.length (yc0 R vals):=yc2 ho hm fun kk hk=>hf kk (.inl hk)
 refine ⟨⟨h0,h1,vals,hl,⟨B,zbl hB hm.size,ho'⟩,fun i v r hv hri=>⟨?_,(hr i v r hv hri).2⟩⟩,fun kk hk=>?_⟩
 ·obtain ⟨g1,g2⟩:=hr i v r hv hri
  by_cases hn:r.2=[]
  ·rw [hn] at g1 ⊢;exact yod g1
  ·exact g1.mod hm fun kk hk _=>hf kk (.inr ⟨i,r,v,hri,hn,yox hl h0 ho hv,hk⟩)
 ·rcases hk with hk|⟨i,r,v,g1,g2,g3,g4⟩
  ·exact .inl hk
  ·have hi:i<vals.length:=by rw [hl];exact (zab.1 g1).1
   have hv:=zaa hi
   have:v=vals[i]:=tabAt_eq g3 (yox hl h0 ho' hv)
   subst this
   exact .inr ⟨i,r,_,g1,g2,yox hl h0 ho hv,g4⟩
theorem dk_stay (b:Dk) (w:World) (u:Value) (h:yfi b w u) (F:Nat→Prop) (w':World) (hm:Mod F w w') (hf:∀ k,yuj b w u k→¬ F k):yfi b w' u∧(∀ k,yuj b w' u k→yuj b w u k)∧∀ k,dkOwn b w' u k→dkOwn b w u k:=by
 cases b with
 |mp T=>
  obtain ⟨b,es,clock,rfl,h1,h2⟩:=h
  refine ⟨⟨b,es,clock,rfl,?_,h2⟩,fun k hk=>hk,fun k hk=>hk⟩
  rw [hm.block b (zbp.1 h1).1 (hf b rfl)];exact h1
 |big vs=>
  obtain ⟨h0,b,t,rfl,h1⟩:=h
  refine ⟨⟨h0,b,t,rfl,?_⟩,fun k hk=>hk,fun k hk=>hk⟩
  rw [hm.block b (zbp.1 h1).1 (hf b ⟨b,rfl,rfl⟩)];exact h1
 |flat x=>
  obtain ⟨h0,B,hB,h2⟩:=h
  exact ⟨⟨h0,B,zbl hB hm.size,yc2 h2 hm hf⟩,fun k hk=>hk,fun k hk=>hk⟩
 |tab x=>exact ⟨(ytd h hm hf).1,(ytd h hm hf).2,fun kk hk=>hk⟩
 |shr sz n el=>
  obtain ⟨hs,vals,hR,hc⟩:=h
  have hR':Rs w' sz u n vals:=by
   by_cases hn:n=0
   ·subst hn;exact yjf hR
   ·exact hR.mod hm fun kk hk _=>hf kk (.inl ⟨hn,hk⟩)
  have hlen:=hR.1
  refine ⟨⟨hs,vals,hR',fun i j c v hi hj hci hv=>?_⟩,fun kk hk=>?_,fun kk hk=>hk⟩
  ·have g1:=hc i j c v hi hj hci hv
   cases c with
   |v x=>exact g1
   |bs l=>
    by_cases hn:l=[]
    ·subst hn;exact yod g1
    ·exact Bs.mod g1 hm fun kk hk _=>hf kk (.inr ⟨i,j,_,v,hi,hj,hci,hn,ywq hR hv,hk⟩)
   |ns l=>
    by_cases hn:l=[]
    ·subst hn;exact yjf g1
    ·exact Is.mod g1 hm fun kk hk _=>hf kk (.inr ⟨i,j,_,v,hi,hj,hci,hn,ywq hR hv,hk⟩)
  ·rcases hk with hk|⟨i,j,c,v,g1,g2,g3,g4,g5,g6⟩
   ·exact .inl hk
   ·have hi:i * sz+j<vals.length:=by rw [hlen];exact yrk g1 g2
    have hv:=zaa hi
    have:v=vals[i * sz+j]:=cdAt_eq g5 (ywq hR' hv)
    subst this
    exact .inr ⟨i,j,c,_,g1,g2,g3,g4,ywq hR hv,g6⟩
 |nums l=>
  have h:Is w u l:=h
  refine ⟨?_,fun kk hk=>hk,fun kk hk=>hk⟩
  by_cases hn:l=[]
  ·subst hn;exact yjf h
  ·exact Is.mod h hm fun kk hk _=>hf kk ⟨hn,hk⟩
 |vw ks R=>
  obtain ⟨h0,h⟩:=h
  refine ⟨⟨h0,?_⟩,fun kk hk=>hk,fun kk hk=>hk⟩
  by_cases hn:R=[]
  ·subst hn;exact yjf h
  ·exact Rs.mod h hm fun kk hk _=>hf kk ⟨hn,hk⟩
def dkI:ObI Dk:=⟨yfi,yuj,dkOwn,fun _=>true,dk_stay,fun b w u h=>by
  cases b with
  |mp T=>obtain ⟨b,es,clock,rfl,_⟩:=h;rfl
  |big vs=>obtain ⟨_,b,t,rfl,_⟩:=h;rfl
  |flat x=>obtain ⟨_,B,_,h⟩:=h;exact yhr h
  |tab x=>obtain ⟨_,_,vals,_,⟨B,_,h⟩,_⟩:=h;exact yhr h
  |shr sz n el=>obtain ⟨_,vals,⟨_,ao,cap,rfl,_⟩,_⟩:=h;rfl
  |nums l=>obtain ⟨_,ao,cap,rfl,_⟩:=h;rfl
  |vw ks R=>obtain ⟨_,_,ao,cap,rfl,_⟩:=h;rfl,
 fun b w u k h=>by
  cases b with
  |mp T=>exact h
  |big vs=>exact h
  |flat x=>exact h
  |tab x=>exact .inl h
  |shr sz n el=>exact h.elim
  |nums l=>exact h.elim
  |vw ks R=>exact h.elim⟩
abbrev Td:=Th Dk
abbrev Id':ObI Td:=thI dkI
def yag:Dk→Bool
 |.mp _=>false
 |.big _=>true
 |.flat _=>false
 |.tab _=>false
 |.shr _ _ _=>true
 |.nums _=>true
 |.vw _ _=>true
def yaj:Td→Bool:=yc6 yag
end Go.Proofs.Ytiiekgcjilelpaa
