/- JW. -/
import Derived.Test.YtiiekgcjilelpaaH9p
import Derived.Test.YtiiekgcjilelpaaJ2p
set_option linter.unusedVariables false
namespace Go.Proofs.Ytiiekgcjilelpaa
open Go.RowKit
def tbE (L:List (List UInt8)) (i:Nat):List CD:=[.bs (L.getD i [])]
def wkO:Ob Td→Option (Ob Td)
 |.us (.ext (.tab (.bs L)))=>some (.us (.ext (.shr 1 L.length (tbE L))))
 |.us (.ext (.flat (.rw _ ks R)))=>(match ks with|[]=>none|_::_=>some (.us (.ext (.vw ks R))))
 |.us (.own l)=>some (.us (.byt l))
 |_=>none
def wkE (en:En Td):En Td:=match en.mu,wkO en.ob with
 |true,some o=>⟨o,false⟩
 |_,_=>en
def wkM:Mem Td→Mem Td
 |[]=>[]
 |en::r=>wkE en::wkM r
def kpE (en:En Td):Bool:=!en.mu||(match wkO en.ob with|some _=>true|none=>false)
def nwE (en:En Td):Bool:=match en.ob with
 |.dead=>true
 |.us (.ext (.flat _))=>en.mu
 |.us (.own _)=>en.mu
 |.blk _=>en.mu
 |.bx _=>en.mu
 |_=>false
def reW:Mem Td→Mem Td→Option (Mem Td)
 |[],[]=>some []
 |[],m::sm=>(match nwE m,reW [] sm with|true,some q=>some (m::q)|_,_=>none)
 |s::r,m::sm=>(match kpE s||nwE m,reW r sm with|true,some q=>some ((match kpE s with|true=>s|false=>m)::q)|_,_=>none)
 |_::_,[]=>none
def wkC (C:Ctr Td):Ctr Td:=fun us sub=>match C us (wkM sub) with
 |some (ps,x,sm)=>(match reW sub sm with|some q=>some (ps,x,q)|none=>none)
 |none=>none
theorem wkM_len:∀ m:Mem Td,(wkM m).length=m.length
 |[]=>rfl
 |_::r=>by simp [wkM,wkM_len r]
theorem wkM_get:∀ (m:Mem Td) (i:Nat),(wkM m)[i]? =m[i]?.map wkE
 |[],i=>by simp [wkM]
 |en::r,0=>by simp [wkM]
 |en::r,i+1=>by simp only [wkM,List.getElem?_cons_succ];exact wkM_get r i
theorem wkE_cases (en:En Td):(wkE en=en∧(en.mu=true→kpE en=false))∨(en.mu=true∧∃ o,wkO en.ob=some o∧wkE en=⟨o,false⟩):=by
 obtain ⟨ob,mu⟩:=en
 cases mu with
 |false=>exact .inl ⟨rfl,fun h=>by cases h⟩
 |true=>
  cases ho:wkO ob with
  |none=>exact .inl ⟨by simp [wkE,ho],fun _=>by simp [kpE,ho]⟩
  |some o=>exact .inr ⟨rfl,o,by first|exact ho|rfl,by simp [wkE,ho]⟩
theorem wkO_inv {ob o:Ob Td} (h:wkO ob=some o):(∃ t k ks R,ob=.us (.ext (.flat (.rw t (k::ks) R)))∧o=.us (.ext (.vw (k::ks) R)))∨(∃ l,ob=.us (.own l)∧o=.us (.byt l))∨∃ L,ob=.us (.ext (.tab (.bs L)))∧o=.us (.ext (.shr 1 L.length (tbE L))):=by
 unfold wkO at h
 split at h
 ·simp only [Option.some.injEq] at h;exact .inr (.inr ⟨_,rfl,h.symm⟩)
 ·rename_i t ks R
  cases ks with
  |nil=>cases h
  |cons k ks=>simp only [Option.some.injEq] at h;exact .inl ⟨t,k,ks,R,rfl,h.symm⟩
 ·simp only [Option.some.injEq] at h;exact .inr (.inl ⟨_,rfl,h.symm⟩)
 ·cases h
theorem tab0_cells:∀ {L:List (List UInt8)} {vals:List Value},vals.length=L.length→tabCells (TB.bs L).R vals=vals
 |[],[],_=>rfl
 |l::L,v::vals,h=>by
  have:=tab0_cells (L:=L) (vals:=vals) (by simpa using h)
  show tabCells (([],l)::(TB.bs L).R) (v::vals)=_
  rw [tabCells_cons,this];rfl
 |[],_::_,h=>by simp at h
 |_::_,[],h=>by simp at h
theorem tab0_at {w:World} {u:Value} {L:List (List UInt8)} (h:tabHolds (TB.bs L).t (TB.bs L).k (TB.bs L).R w u):∃ vals:List Value,vals.length=L.length∧Rs w 1 u L.length vals∧∀ (i:Nat) (v:Value),vals[i]? =some v→Bs w v (L.getD i []):=by
 obtain ⟨_,_,vals,hl,⟨B,_,ho⟩,hr⟩:=h
 have hR:(TB.bs L).R.length=L.length:=by simp [TB.R]
 rw [hR] at hl
 refine ⟨vals,hl,?_,fun i v hv=>?_⟩
 ·have:=Rs.of_owns ho
  rw [tab0_cells hl,hR] at this
  exact this
 ·have hi:i<L.length:=by rw [← hl];exact (List.getElem?_eq_some_iff.1 hv).1
  have:=(hr i v ([],L.getD i []) hv (by simp [TB.R,List.getD_eq_getElem?_getD,List.getElem?_eq_getElem hi])).1
  exact this
theorem wkO_holds {e:Env} {w:World} {u:Value} {m m':Bool} {ob o:Ob Td} (h:wkO ob=some o) (hh:Holds Id' e w u m ob):Holds Id' e w u m' o:=by
 rcases wkO_inv h with ⟨t,k,ks,R,rfl,rfl⟩|⟨l,rfl,rfl⟩|⟨L,rfl,rfl⟩
 ·obtain ⟨_,B,_,ho⟩:=hh
  have:=Rs.of_owns ho
  simp only [FL.len] at this
  exact ⟨by simp,this⟩
 ·obtain ⟨B,_,ho⟩:=hh
  exact Rs.of_owns ho
 ·obtain ⟨vals,hl,hR,hv⟩:=tab0_at hh
  refine ⟨by decide,vals,hR,fun i j c v hi hj hc hcv=>?_⟩
  obtain rfl:j=0:=by omega
  simp only [tbE,List.getElem?_cons_zero,Option.some.injEq] at hc
  subst hc
  exact hv i v (by simpa using hcv)
theorem wkO_foot {w:World} {u:Value} {ob o:Ob Td} (h:wkO ob=some o) {k:Nat} (hk:Foot Id' w u o k):Foot Id' w u ob k:=by
 rcases wkO_inv h with ⟨t,k',ks,R,rfl,rfl⟩|⟨l,rfl,rfl⟩|⟨L,rfl,rfl⟩
 ·exact hk.2
 ·exact hk.2
 ·rcases hk with hk|⟨i,j,c,v,hi,hj,hc,hf,⟨a,n,cap,hu,hcl⟩,hv⟩
  ·exact .inl hk.2
  ·obtain rfl:j=0:=by omega
   simp only [tbE,List.getElem?_cons_zero,Option.some.injEq] at hc
   subst hc
   refine .inr ⟨i,([],L.getD i []),v,?_,hf,⟨a,n,cap,hu,?_⟩,hv⟩
   ·simp [TB.R,List.getD_eq_getElem?_getD,List.getElem?_eq_getElem hi]
   ·have e:i * 1+0=i * (0+1)+0:=by omega
    rw [e] at hcl
    exact hcl
theorem wkE_foot {en:En Td} {w:World} {u:Value} {k:Nat} (h:Foot Id' w u (wkE en).ob k):Foot Id' w u en.ob k:=by
 rcases wkE_cases en with ⟨he,_⟩|⟨_,o,ho,he⟩
 ·rw [he] at h;exact h
 ·rw [he] at h;exact wkO_foot ho h
theorem wkE_mu {en:En Td} (h:(wkE en).mu=true):wkE en=en∧en.mu=true∧kpE en=false:=by
 rcases wkE_cases en with ⟨he,hk⟩|⟨_,o,ho,he⟩
 ·rw [he] at h;exact ⟨he,h,hk h⟩
 ·rw [he] at h;cases h
theorem wkM_inv {mem:Mem Td} {i:Nat} {n:En Td} (h:(wkM mem)[i]? =some n):∃ en,mem[i]? =some en∧n=wkE en:=by
 rw [wkM_get] at h
 cases hm:mem[i]? with
 |none=>rw [hm] at h;cases h
 |some en=>rw [hm] at h;simp only [Option.map_some,Option.some.injEq] at h;exact ⟨en,rfl,h.symm⟩
theorem nwE_own {en:En Td} (h:nwE en=true) {w:World} {u:Value} {k:Nat} (hk:Foot Id' w u en.ob k):en.mu=true∧Own Id' w u en.ob k:=by
 obtain ⟨ob,mu⟩:=en
 unfold nwE at h
 split at h
 ·rename_i hb;dsimp only at hb hk;rw [hb] at hk;cases hk
 ·rename_i hb;dsimp only at hb hk h ⊢;rw [hb] at hk ⊢;exact ⟨h,hk⟩
 ·rename_i hb;dsimp only at hb hk h ⊢;rw [hb] at hk ⊢;exact ⟨h,hk⟩
 ·rename_i hb;dsimp only at hb hk h ⊢;rw [hb] at hk ⊢;exact ⟨h,hk⟩
 ·rename_i hb;dsimp only at hb hk h ⊢;rw [hb] at hk ⊢;exact ⟨h,hk⟩
 ·cases h
theorem reW_get:∀ {sub sm q:Mem Td},reW sub sm=some q→q.length=sm.length∧sub.length≤sm.length∧∀ (i:Nat) (n:En Td),q[i]? =some n→(sub[i]? =some n∧kpE n=true)∨(sm[i]? =some n∧nwE n=true)
 |[],[],q,h=>by
  simp only [reW,Option.some.injEq] at h
  subst h
  exact ⟨rfl,Nat.le_refl _,fun i n h=>by simp at h⟩
 |[],m::sm,q,h=>by
  unfold reW at h
  split at h
  ·rename_i q' h1 h2
   simp only [Option.some.injEq] at h
   subst h
   obtain ⟨g1,g2,g3⟩:=reW_get h2
   refine ⟨by simp [g1],by simp,fun i n hn=>?_⟩
   cases i with
   |zero=>simp only [List.getElem?_cons_zero,Option.some.injEq] at hn;subst hn;exact .inr ⟨rfl,h1⟩
   |succ i=>
    rw [List.getElem?_cons_succ] at hn
    rcases g3 i n hn with ⟨h5,_⟩|h5
    ·simp at h5
    ·exact .inr h5
  ·cases h
 |s::r,m::sm,q,h=>by
  unfold reW at h
  split at h
  ·rename_i q' h1 h2
   simp only [Option.some.injEq] at h
   subst h
   obtain ⟨g1,g2,g3⟩:=reW_get h2
   refine ⟨by simp [g1],by simp only [List.length_cons];omega,fun i n hn=>?_⟩
   cases i with
   |zero=>
    simp only [List.getElem?_cons_zero,Option.some.injEq] at hn
    subst hn
    cases hk:kpE s with
    |true=>exact .inl ⟨rfl,hk⟩
    |false=>rw [hk] at h1;exact .inr ⟨rfl,by simpa using h1⟩
   |succ i=>
    rw [List.getElem?_cons_succ] at hn
    exact g3 i n hn
  ·cases h
 |_::_,[],q,h=>by simp [reW] at h
theorem wkC_ok {P:Program} {f:FuncId} {C:Ctr Td} (hC:CtrOk P Id' f C):CtrOk P Id' f (wkC C):=by
 intro us sub ps x q h hp w e vs hM ha
 unfold wkC at h
 split at h
 ·rename_i ps' x' sm h1
  split at h
  ·rename_i q' h2
   simp only [Option.some.injEq,Prod.mk.injEq] at h
   obtain ⟨rfl,rfl,rfl⟩:=h
   have hO:∀ k,OwnOf Id' w e (wkM sub) k→OwnOf Id' w e sub k:=fun k ⟨i,u,n,hu,hn,hmu,hk⟩=>by
    obtain ⟨en,g1,rfl⟩:=wkM_inv hn
    obtain ⟨g2,g3,_⟩:=wkE_mu hmu
    rw [g2] at hk
    exact ⟨i,u,en,hu,g1,g3,hk⟩
   have hF:∀ k,FootOf Id' w e (wkM sub) (2 * k)→OwnOf Id' w e (wkM sub) k:=fun k hk=>by
    rcases hk with ⟨_,hk⟩|⟨hk,_⟩
    ·rw [show 2 * k / 2=k by omega] at hk;exact hk
    ·omega
   have hE:∀ k,OwnOf Id' w e sub k→FootOf Id' w e sub (2 * k):=fun k hk=>.inl ⟨by omega,by rw [show 2 * k / 2=k by omega];exact hk⟩
   have hR:∀ k,ReadOf Id' w e sub k→¬ FootOf Id' w e sub (2 * k+1):=fun k hk hk'=>by
    rcases hk' with ⟨h,_⟩|⟨_,h⟩
    ·omega
    ·rw [show (2 * k+1) / 2=k by omega] at h;exact h hk
   have hs:MemOk w (FootOf Id' w e (wkM sub)) Id' w e (wkM sub):=by
    refine ⟨by rw [wkM_len];exact hM.len,fun i u n hu hn=>?_,fun i u n hu hn k hk=>?_,fun i u n hu hn hmu k hk=>?_,fun i j u v n m hu hn hmu hv hm hij k hk1 hk2=>?_,Mod.refl _ _,fun i u n hu hn k hk=>.inr fun hg=>?_⟩
    ·obtain ⟨en,g1,rfl⟩:=wkM_inv hn
     have hh:=hM.holds i u en hu g1
     rcases wkE_cases en with ⟨he,_⟩|⟨_,o,ho,he⟩
     ·rw [he];exact hh
     ·rw [he];exact wkO_holds ho hh
    ·obtain ⟨en,g1,rfl⟩:=wkM_inv hn
     exact hM.lt i u en hu g1 k (wkE_foot hk)
    ·exact .inr (.inl ⟨by omega,by rw [show 2 * k / 2=k by omega];exact ⟨i,u,n,hu,hn,hmu,hk⟩⟩)
    ·obtain ⟨en,g1,rfl⟩:=wkM_inv hn
     obtain ⟨em,g2,rfl⟩:=wkM_inv hm
     obtain ⟨g3,g4,_⟩:=wkE_mu hmu
     rw [g3] at hk1
     exact hM.sep i j u v en em hu g1 g4 hv g2 hij k hk1 (wkE_foot hk2)
    ·rcases hg with ⟨h,_⟩|⟨_,h⟩
     ·omega
     ·rw [show (2 * k+1) / 2=k by omega] at h;exact h ⟨i,u,n,hu,hn,hk⟩
   refine (hC us (wkM sub) ps' x' sm h1 hp w e vs hs ha).mono fun y w' ⟨v,e',hy,hg,hx,hM'⟩=>⟨v,e',hy,hg,hx,?_⟩
   obtain ⟨q1,q2,q3⟩:=reW_get h2
   -- what is kept is not turned
   have kept:∀ (i:Nat) (n:En Td) (u:Value),sub[i]? =some n→kpE n=true→e[i]? =some u→(∀ k,Foot Id' w u n.ob k→¬ OwnOf Id' w e (wkM sub) k)∧Holds Id' e' w' u n.mu n.ob∧(∀ k,Foot Id' w' u n.ob k→Foot Id' w u n.ob k)∧∀ k,Own Id' w' u n.ob k→Own Id' w u n.ob k:=fun i n u hn hk hu=>by
    have hno:∀ k,Foot Id' w u n.ob k→¬ OwnOf Id' w e (wkM sub) k:=fun k hk1 ⟨j,v,m,hv,hm,hmu,hk2⟩=>by
     obtain ⟨em,g1,rfl⟩:=wkM_inv hm
     obtain ⟨g2,g3,g4⟩:=wkE_mu hmu
     rw [g2] at hk2
     refine hM.sep j i v u em n hv g1 g3 hu hn (fun hij=>?_) k hk2 hk1
     subst hij
     rw [hn] at g1
     cases g1
     rw [hk] at g4;cases g4
    have hh:=hM.holds i u n hu hn
    have hst:=hh.stay hM'.mod (fun k hk1 hk2=>hno k hk1 (hF k hk2))
    exact ⟨hno,hst.1.mono hg,hst.2,hh.stayO hM'.mod (fun k hk1 hk2=>hno k hk1 (hF k hk2))⟩
   have old:∀ (i:Nat) (u:Value) (n:En Td),sub[i]? =some n→e'[i]? =some u→e[i]? =some u:=fun i u n hn hu=>by
    have hlt:i<e.length:=by rw [hM.len];exact (List.getElem?_eq_some_iff.1 hn).1
    have:=hg i _ (List.getElem?_eq_getElem hlt)
    rw [hu] at this
    cases this
    exact List.getElem?_eq_getElem hlt
   have fresh:∀ (i:Nat) (u:Value) (n:En Td),sm[i]? =some n→nwE n=true→e'[i]? =some u→∀ k,Foot Id' w' u n.ob k→w.heap.size≤k∨OwnOf Id' w e (wkM sub) k:=fun i u n hn hw hu k hk=>by
    obtain ⟨g1,g2⟩:=nwE_own hw hk
    rcases hM'.own i u n hu hn g1 k g2 with h|h
    ·exact .inl h
    ·exact .inr (hF k h)
   have apart:∀ (i j:Nat) (u v:Value) (n m:En Td),sub[i]? =some n→kpE n=true→e'[i]? =some u→sm[j]? =some m→nwE m=true→e'[j]? =some v→∀ k,Foot Id' w' u n.ob k→¬ Foot Id' w' v m.ob k:=fun i j u v n m hn hkn hu hm hwm hv k hk1 hk2=>by
    have hu0:=old i u n hn hu
    obtain ⟨g1,_,g3,_⟩:=kept i n u hn hkn hu0
    rcases fresh j v m hm hwm hv k hk2 with h|h
    ·have:=hM.lt i u n hu0 hn k (g3 k hk1);omega
    ·exact g1 k (g3 k hk1) h
   refine ⟨by rw [q1];exact hM'.len,fun i u n hu hn=>?_,fun i u n hu hn k hk=>?_,fun i u n hu hn hmu k hk=>?_,fun i j u v n m hu hn hmu hv hm hij k hk1 hk2=>?_,hM'.mod.mono fun k _ hk=>hE k (hO k (hF k hk)),fun i u n hu hn k hk=>?_⟩
   ·rcases q3 i n hn with ⟨h,hk⟩|⟨h,hk⟩
    ·exact (kept i n u h hk (old i u n h hu)).2.1
    ·exact hM'.holds i u n hu h
   ·rcases q3 i n hn with ⟨h,hk'⟩|⟨h,hk'⟩
    ·have hu0:=old i u n h hu
     have:=hM.lt i u n hu0 h k ((kept i n u h hk' hu0).2.2.1 k hk)
     exact Nat.lt_of_lt_of_le this hM'.mod.size
    ·exact hM'.lt i u n hu h k hk
   ·rcases q3 i n hn with ⟨h,hk'⟩|⟨h,hk'⟩
    ·have hu0:=old i u n h hu
     exact .inr (hE k ⟨i,u,n,hu0,h,hmu,(kept i n u h hk' hu0).2.2.2 k hk⟩)
    ·rcases fresh i u n h hk' hu k hk.foot with g|g
     ·exact .inl g
     ·exact .inr (hE k (hO k g))
   ·rcases q3 i n hn with ⟨h,hkn⟩|⟨h,hkn⟩<;>rcases q3 j m hm with ⟨g,hkm⟩|⟨g,hkm⟩
    ·have hu0:=old i u n h hu
     have hv0:=old j v m g hv
     exact hM.sep i j u v n m hu0 h hmu hv0 g hij k ((kept i n u h hkn hu0).2.2.2 k hk1) ((kept j m v g hkm hv0).2.2.1 k hk2)
    ·exact apart i j u v n m h hkn hu g hkm hv k hk1.foot hk2
    ·exact apart j i v u m n g hkm hv h hkn hu k hk2 hk1.foot
    ·exact hM'.sep i j u v n m hu h hmu hv g hij k hk1 hk2
   ·rcases q3 i n hn with ⟨h,hk'⟩|⟨h,hk'⟩
    ·have hu0:=old i u n h hu
     exact .inr (hR k ⟨i,u,n,hu0,h,(kept i n u h hk' hu0).2.2.1 k hk⟩)
    ·rcases fresh i u n h hk' hu k hk with g|g
     ·exact .inl g
     ·obtain ⟨i',u',n',a1,a2,_,a4⟩:=hO k g
      exact .inr (hR k ⟨i',u',n',a1,a2,a4.foot⟩)
  ·cases h
 ·cases h
end Go.Proofs.Ytiiekgcjilelpaa
