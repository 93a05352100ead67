/- W3 W4 W5 W6 W7 W8 Z2 H14 H15 H16 H17 H18 W9 W10 W11 W12 W13 W14 W15 W16 W17 W18 W19 W20 W21 W22 W23 W24. -/
import Derived.Test.YtdenmoiaiemokaaW2p
import Derived.Test.YtdenmoiaiemokaaZ1p
import Derived.Test.YtdenmoiaiemokaaG0p
import Derived.Test.YtdenmoiaiemokaaT20p
import Derived.Test.YtdenmoiaiemokaaH13p
import Derived.Test.YtdenmoiaiemokaaF2p
import Derived.Laws.RangeAny
import Derived.Laws.RangeString
import Derived.Lib.OthersKept
import Derived.LoopTactic
import Derived.IntWalk
set_option linter.unusedVariables false
set_option linter.unusedSimpArgs false
namespace Go.Proofs.Ytdenmoiaiemokaa
open Go.RowKit
def nmR (R:List Rw) (i:Int):ByteArray:=(R.getD i.toNat Rw.zero).ss.getD 0 ⟨#[]⟩
end Go.Proofs.Ytdenmoiaiemokaa
set_option linter.unusedVariables false
set_option linter.unusedSimpArgs false
namespace Go.Proofs.Ytdenmoiaiemokaa
open Go.RowKit
end Go.Proofs.Ytdenmoiaiemokaa
set_option linter.unusedVariables false
set_option linter.unusedSimpArgs false
namespace Go.Proofs.Ytdenmoiaiemokaa
open Go.RowKit
def nrm4 (r:Rw):Rw:=⟨[r.is.getD 0 0,r.is.getD 1 0,r.is.getD 2 0],[r.ss.getD 0 ⟨#[]⟩]⟩
end Go.Proofs.Ytdenmoiaiemokaa
set_option linter.unusedVariables false
set_option linter.unusedSimpArgs false
namespace Go.Proofs.Ytdenmoiaiemokaa
open Go.RowKit
end Go.Proofs.Ytdenmoiaiemokaa
set_option linter.unusedVariables false
set_option linter.unusedSimpArgs false
namespace Go.Proofs.Ytdenmoiaiemokaa
open Go.RowKit
end Go.Proofs.Ytdenmoiaiemokaa
set_option linter.unusedVariables false
namespace Go.Proofs.Ytdenmoiaiemokaa
open Go.RowKit
def tbE (L:List (List UInt8)) (i:Nat):List CD:=[.bs (L.getD i [])]
def wkO:Ob Td→Option (Ob Td)
 |.us (.ext (.tab (.bs L)))=>some (.us (.ext (.shr 1 L.length (tbE L))))
 |.us (.ext (.flat (.rw _ ks R)))=>(match ks with|[]=>none|_::_=>some (.us (.ext (.vw ks R))))
 |.us (.own l)=>some (.us (.byt l))
 |_=>none
def wkE (en:En Td):En Td:=match en.mu,wkO en.ob with
 |true,some o=>⟨o,false⟩
 |_,_=>en
def wkM:Mem Td→Mem Td
 |[]=>[]
 |en::r=>wkE en::wkM r
def kpE (en:En Td):Bool:=!en.mu||(match wkO en.ob with|some _=>true|none=>false)
def nwE (en:En Td):Bool:=match en.ob with
 |.dead=>true
 |.us (.ext (.flat _))=>en.mu
 |.us (.own _)=>en.mu
 |.blk _=>en.mu
 |.bx _=>en.mu
 |_=>false
def reW:Mem Td→Mem Td→Option (Mem Td)
 |[],[]=>some []
 |[],m::sm=>(match nwE m,reW [] sm with|true,some q=>some (m::q)|_,_=>none)
 |s::r,m::sm=>(match kpE s||nwE m,reW r sm with|true,some q=>some ((match kpE s with|true=>s|false=>m)::q)|_,_=>none)
 |_::_,[]=>none
def wkC (C:Ctr Td):Ctr Td:=fun us sub=>match C us (wkM sub) with
 |some (ps,x,sm)=>(match reW sub sm with|some q=>some (ps,x,q)|none=>none)
 |none=>none
theorem wkM_len:∀ m:Mem Td,(wkM m).length=m.length
 |[]=>rfl
 |_::r=>by simp [wkM,wkM_len r]
theorem wkM_get:∀ (m:Mem Td) (i:Nat),(wkM m)[i]? =m[i]?.map wkE
 |[],i=>by simp [wkM]
 |en::r,0=>by simp [wkM]
 |en::r,i+1=>by simp only [wkM,List.getElem?_cons_succ];exact wkM_get r i
theorem wkE_cases (en:En Td):(wkE en=en∧(en.mu=true→kpE en=false))∨(en.mu=true∧∃ o,wkO en.ob=some o∧wkE en=⟨o,false⟩):=by
 obtain ⟨ob,mu⟩:=en
 cases mu with
 |false=>exact .inl ⟨rfl,fun h=>by cases h⟩
 |true=>
  cases ho:wkO ob with
  |none=>exact .inl ⟨by simp [wkE,ho],fun _=>by simp [kpE,ho]⟩
  |some o=>exact .inr ⟨rfl,o,by first|exact ho|rfl,by simp [wkE,ho]⟩
theorem wkO_inv {ob o:Ob Td} (h:wkO ob=some o):(∃ t k ks R,ob=.us (.ext (.flat (.rw t (k::ks) R)))∧o=.us (.ext (.vw (k::ks) R)))∨(∃ l,ob=.us (.own l)∧o=.us (.byt l))∨∃ L,ob=.us (.ext (.tab (.bs L)))∧o=.us (.ext (.shr 1 L.length (tbE L))):=by
 unfold wkO at h
 split at h
 ·simp only [Option.some.injEq] at h;exact .inr (.inr ⟨_,rfl,h.symm⟩)
 ·rename_i t ks R
  cases ks with
  |nil=>cases h
  |cons k ks=>simp only [Option.some.injEq] at h;exact .inl ⟨t,k,ks,R,rfl,h.symm⟩
 ·simp only [Option.some.injEq] at h;exact .inr (.inl ⟨_,rfl,h.symm⟩)
 ·cases h
theorem tab0_cells:∀ {L:List (List UInt8)} {vals:List Value},vals.length=L.length→tabCells (TB.bs L).R vals=vals
 |[],[],_=>rfl
 |l::L,v::vals,h=>by
  have:=tab0_cells (L:=L) (vals:=vals) (by simpa using h)
  show tabCells (([],l)::(TB.bs L).R) (v::vals)=_
  rw [tabCells_cons,this];rfl
 |[],_::_,h=>by simp at h
 |_::_,[],h=>by simp at h
theorem tab0_at {w:World} {u:Value} {L:List (List UInt8)} (h:tabHolds (TB.bs L).t (TB.bs L).k (TB.bs L).R w u):∃ vals:List Value,vals.length=L.length∧Rs w 1 u L.length vals∧∀ (i:Nat) (v:Value),vals[i]? =some v→Bs w v (L.getD i []):=by
 obtain ⟨_,_,vals,hl,⟨B,_,ho⟩,hr⟩:=h
 have hR:(TB.bs L).R.length=L.length:=by simp [TB.R]
 rw [hR] at hl
 refine ⟨vals,hl,?_,fun i v hv=>?_⟩
 ·have:=Rs.of_owns ho
  rw [tab0_cells hl,hR] at this
  exact this
 ·have hi:i<L.length:=by rw [← hl];exact (List.getElem?_eq_some_iff.1 hv).1
  have:=(hr i v ([],L.getD i []) hv (by simp [TB.R,List.getD_eq_getElem?_getD,List.getElem?_eq_getElem hi])).1
  exact this
theorem wkO_holds {e:Env} {w:World} {u:Value} {m m':Bool} {ob o:Ob Td} (h:wkO ob=some o) (hh:Holds Id' e w u m ob):Holds Id' e w u m' o:=by
 rcases wkO_inv h with ⟨t,k,ks,R,rfl,rfl⟩|⟨l,rfl,rfl⟩|⟨L,rfl,rfl⟩
 ·obtain ⟨_,B,_,ho⟩:=hh
  have:=Rs.of_owns ho
  simp only [FL.len] at this
  exact ⟨by simp,this⟩
 ·obtain ⟨B,_,ho⟩:=hh
  exact Rs.of_owns ho
 ·obtain ⟨vals,hl,hR,hv⟩:=tab0_at hh
  refine ⟨by decide,vals,hR,fun i j c v hi hj hc hcv=>?_⟩
  obtain rfl:j=0:=by omega
  simp only [tbE,List.getElem?_cons_zero,Option.some.injEq] at hc
  subst hc
  exact hv i v (by simpa using hcv)
theorem wkO_foot {w:World} {u:Value} {ob o:Ob Td} (h:wkO ob=some o) {k:Nat} (hk:Foot Id' w u o k):Foot Id' w u ob k:=by
 rcases wkO_inv h with ⟨t,k',ks,R,rfl,rfl⟩|⟨l,rfl,rfl⟩|⟨L,rfl,rfl⟩
 ·exact hk.2
 ·exact hk.2
 ·rcases hk with hk|⟨i,j,c,v,hi,hj,hc,hf,⟨a,n,cap,hu,hcl⟩,hv⟩
  ·exact .inl hk.2
  ·obtain rfl:j=0:=by omega
   simp only [tbE,List.getElem?_cons_zero,Option.some.injEq] at hc
   subst hc
   refine .inr ⟨i,([],L.getD i []),v,?_,hf,⟨a,n,cap,hu,?_⟩,hv⟩
   ·simp [TB.R,List.getD_eq_getElem?_getD,List.getElem?_eq_getElem hi]
   ·have e:i * 1+0=i * (0+1)+0:=by omega
    rw [e] at hcl
    exact hcl
theorem wkE_foot {en:En Td} {w:World} {u:Value} {k:Nat} (h:Foot Id' w u (wkE en).ob k):Foot Id' w u en.ob k:=by
 rcases wkE_cases en with ⟨he,_⟩|⟨_,o,ho,he⟩
 ·rw [he] at h;exact h
 ·rw [he] at h;exact wkO_foot ho h
theorem wkE_mu {en:En Td} (h:(wkE en).mu=true):wkE en=en∧en.mu=true∧kpE en=false:=by
 rcases wkE_cases en with ⟨he,hk⟩|⟨_,o,ho,he⟩
 ·rw [he] at h;exact ⟨he,h,hk h⟩
 ·rw [he] at h;cases h
theorem wkM_inv {mem:Mem Td} {i:Nat} {n:En Td} (h:(wkM mem)[i]? =some n):∃ en,mem[i]? =some en∧n=wkE en:=by
 rw [wkM_get] at h
 cases hm:mem[i]? with
 |none=>rw [hm] at h;cases h
 |some en=>rw [hm] at h;simp only [Option.map_some,Option.some.injEq] at h;exact ⟨en,rfl,h.symm⟩
theorem nwE_own {en:En Td} (h:nwE en=true) {w:World} {u:Value} {k:Nat} (hk:Foot Id' w u en.ob k):en.mu=true∧Own Id' w u en.ob k:=by
 obtain ⟨ob,mu⟩:=en
 unfold nwE at h
 split at h
 ·rename_i hb;dsimp only at hb hk;rw [hb] at hk;cases hk
 ·rename_i hb;dsimp only at hb hk h ⊢;rw [hb] at hk ⊢;exact ⟨h,hk⟩
 ·rename_i hb;dsimp only at hb hk h ⊢;rw [hb] at hk ⊢;exact ⟨h,hk⟩
 ·rename_i hb;dsimp only at hb hk h ⊢;rw [hb] at hk ⊢;exact ⟨h,hk⟩
 ·rename_i hb;dsimp only at hb hk h ⊢;rw [hb] at hk ⊢;exact ⟨h,hk⟩
 ·cases h
theorem reW_get:∀ {sub sm q:Mem Td},reW sub sm=some q→q.length=sm.length∧sub.length≤sm.length∧∀ (i:Nat) (n:En Td),q[i]? =some n→(sub[i]? =some n∧kpE n=true)∨(sm[i]? =some n∧nwE n=true)
 |[],[],q,h=>by
  simp only [reW,Option.some.injEq] at h
  subst h
  exact ⟨rfl,Nat.le_refl _,fun i n h=>by simp at h⟩
 |[],m::sm,q,h=>by
  unfold reW at h
  split at h
  ·rename_i q' h1 h2
   simp only [Option.some.injEq] at h
   subst h
   obtain ⟨g1,g2,g3⟩:=reW_get h2
   refine ⟨by simp [g1],by simp,fun i n hn=>?_⟩
   cases i with
   |zero=>simp only [List.getElem?_cons_zero,Option.some.injEq] at hn;subst hn;exact .inr ⟨rfl,h1⟩
   |succ i=>
    rw [List.getElem?_cons_succ] at hn
    rcases g3 i n hn with ⟨h5,_⟩|h5
    ·simp at h5
    ·exact .inr h5
  ·cases h
 |s::r,m::sm,q,h=>by
  unfold reW at h
  split at h
  ·rename_i q' h1 h2
   simp only [Option.some.injEq] at h
   subst h
   obtain ⟨g1,g2,g3⟩:=reW_get h2
   refine ⟨by simp [g1],by simp only [List.length_cons];omega,fun i n hn=>?_⟩
   cases i with
   |zero=>
    simp only [List.getElem?_cons_zero,Option.some.injEq] at hn
    subst hn
    cases hk:kpE s with
    |true=>exact .inl ⟨rfl,hk⟩
    |false=>rw [hk] at h1;exact .inr ⟨rfl,by simpa using h1⟩
   |succ i=>
    rw [List.getElem?_cons_succ] at hn
    exact g3 i n hn
  ·cases h
 |_::_,[],q,h=>by simp [reW] at h
theorem wkC_ok {P:Program} {f:FuncId} {C:Ctr Td} (hC:CtrOk P Id' f C):CtrOk P Id' f (wkC C):=by
 intro us sub ps x q h hp w e vs hM ha
 unfold wkC at h
 split at h
 ·rename_i ps' x' sm h1
  split at h
  ·rename_i q' h2
   simp only [Option.some.injEq,Prod.mk.injEq] at h
   obtain ⟨rfl,rfl,rfl⟩:=h
   have hO:∀ k,OwnOf Id' w e (wkM sub) k→OwnOf Id' w e sub k:=fun k ⟨i,u,n,hu,hn,hmu,hk⟩=>by
    obtain ⟨en,g1,rfl⟩:=wkM_inv hn
    obtain ⟨g2,g3,_⟩:=wkE_mu hmu
    rw [g2] at hk
    exact ⟨i,u,en,hu,g1,g3,hk⟩
   have hF:∀ k,FootOf Id' w e (wkM sub) (2 * k)→OwnOf Id' w e (wkM sub) k:=fun k hk=>by
    rcases hk with ⟨_,hk⟩|⟨hk,_⟩
    ·rw [show 2 * k / 2=k by omega] at hk;exact hk
    ·omega
   have hE:∀ k,OwnOf Id' w e sub k→FootOf Id' w e sub (2 * k):=fun k hk=>.inl ⟨by omega,by rw [show 2 * k / 2=k by omega];exact hk⟩
   have hR:∀ k,ReadOf Id' w e sub k→¬ FootOf Id' w e sub (2 * k+1):=fun k hk hk'=>by
    rcases hk' with ⟨h,_⟩|⟨_,h⟩
    ·omega
    ·rw [show (2 * k+1) / 2=k by omega] at h;exact h hk
   have hs:MemOk w (FootOf Id' w e (wkM sub)) Id' w e (wkM sub):=by
    refine ⟨by rw [wkM_len];exact hM.len,fun i u n hu hn=>?_,fun i u n hu hn k hk=>?_,fun i u n hu hn hmu k hk=>?_,fun i j u v n m hu hn hmu hv hm hij k hk1 hk2=>?_,Mod.refl _ _,fun i u n hu hn k hk=>.inr fun hg=>?_⟩
    ·obtain ⟨en,g1,rfl⟩:=wkM_inv hn
     have hh:=hM.holds i u en hu g1
     rcases wkE_cases en with ⟨he,_⟩|⟨_,o,ho,he⟩
     ·rw [he];exact hh
     ·rw [he];exact wkO_holds ho hh
    ·obtain ⟨en,g1,rfl⟩:=wkM_inv hn
     exact hM.lt i u en hu g1 k (wkE_foot hk)
    ·exact .inr (.inl ⟨by omega,by rw [show 2 * k / 2=k by omega];exact ⟨i,u,n,hu,hn,hmu,hk⟩⟩)
    ·obtain ⟨en,g1,rfl⟩:=wkM_inv hn
     obtain ⟨em,g2,rfl⟩:=wkM_inv hm
     obtain ⟨g3,g4,_⟩:=wkE_mu hmu
     rw [g3] at hk1
     exact hM.sep i j u v en em hu g1 g4 hv g2 hij k hk1 (wkE_foot hk2)
    ·rcases hg with ⟨h,_⟩|⟨_,h⟩
     ·omega
     ·rw [show (2 * k+1) / 2=k by omega] at h;exact h ⟨i,u,n,hu,hn,hk⟩
   refine (hC us (wkM sub) ps' x' sm h1 hp w e vs hs ha).mono fun y w' ⟨v,e',hy,hg,hx,hM'⟩=>⟨v,e',hy,hg,hx,?_⟩
   obtain ⟨q1,q2,q3⟩:=reW_get h2
   -- what is kept is not turned
   have kept:∀ (i:Nat) (n:En Td) (u:Value),sub[i]? =some n→kpE n=true→e[i]? =some u→(∀ k,Foot Id' w u n.ob k→¬ OwnOf Id' w e (wkM sub) k)∧Holds Id' e' w' u n.mu n.ob∧(∀ k,Foot Id' w' u n.ob k→Foot Id' w u n.ob k)∧∀ k,Own Id' w' u n.ob k→Own Id' w u n.ob k:=fun i n u hn hk hu=>by
    have hno:∀ k,Foot Id' w u n.ob k→¬ OwnOf Id' w e (wkM sub) k:=fun k hk1 ⟨j,v,m,hv,hm,hmu,hk2⟩=>by
     obtain ⟨em,g1,rfl⟩:=wkM_inv hm
     obtain ⟨g2,g3,g4⟩:=wkE_mu hmu
     rw [g2] at hk2
     refine hM.sep j i v u em n hv g1 g3 hu hn (fun hij=>?_) k hk2 hk1
     subst hij
     rw [hn] at g1
     cases g1
     rw [hk] at g4;cases g4
    have hh:=hM.holds i u n hu hn
    have hst:=hh.stay hM'.mod (fun k hk1 hk2=>hno k hk1 (hF k hk2))
    exact ⟨hno,hst.1.mono hg,hst.2,hh.stayO hM'.mod (fun k hk1 hk2=>hno k hk1 (hF k hk2))⟩
   have old:∀ (i:Nat) (u:Value) (n:En Td),sub[i]? =some n→e'[i]? =some u→e[i]? =some u:=fun i u n hn hu=>by
    have hlt:i<e.length:=by rw [hM.len];exact (List.getElem?_eq_some_iff.1 hn).1
    have:=hg i _ (List.getElem?_eq_getElem hlt)
    rw [hu] at this
    cases this
    exact List.getElem?_eq_getElem hlt
   have fresh:∀ (i:Nat) (u:Value) (n:En Td),sm[i]? =some n→nwE n=true→e'[i]? =some u→∀ k,Foot Id' w' u n.ob k→w.heap.size≤k∨OwnOf Id' w e (wkM sub) k:=fun i u n hn hw hu k hk=>by
    obtain ⟨g1,g2⟩:=nwE_own hw hk
    rcases hM'.own i u n hu hn g1 k g2 with h|h
    ·exact .inl h
    ·exact .inr (hF k h)
   have apart:∀ (i j:Nat) (u v:Value) (n m:En Td),sub[i]? =some n→kpE n=true→e'[i]? =some u→sm[j]? =some m→nwE m=true→e'[j]? =some v→∀ k,Foot Id' w' u n.ob k→¬ Foot Id' w' v m.ob k:=fun i j u v n m hn hkn hu hm hwm hv k hk1 hk2=>by
    have hu0:=old i u n hn hu
    obtain ⟨g1,_,g3,_⟩:=kept i n u hn hkn hu0
    rcases fresh j v m hm hwm hv k hk2 with h|h
    ·have:=hM.lt i u n hu0 hn k (g3 k hk1);omega
    ·exact g1 k (g3 k hk1) h
   refine ⟨by rw [q1];exact hM'.len,fun i u n hu hn=>?_,fun i u n hu hn k hk=>?_,fun i u n hu hn hmu k hk=>?_,fun i j u v n m hu hn hmu hv hm hij k hk1 hk2=>?_,hM'.mod.mono fun k _ hk=>hE k (hO k (hF k hk)),fun i u n hu hn k hk=>?_⟩
   ·rcases q3 i n hn with ⟨h,hk⟩|⟨h,hk⟩
    ·exact (kept i n u h hk (old i u n h hu)).2.1
    ·exact hM'.holds i u n hu h
   ·rcases q3 i n hn with ⟨h,hk'⟩|⟨h,hk'⟩
    ·have hu0:=old i u n h hu
     have:=hM.lt i u n hu0 h k ((kept i n u h hk' hu0).2.2.1 k hk)
     exact Nat.lt_of_lt_of_le this hM'.mod.size
    ·exact hM'.lt i u n hu h k hk
   ·rcases q3 i n hn with ⟨h,hk'⟩|⟨h,hk'⟩
    ·have hu0:=old i u n h hu
     exact .inr (hE k ⟨i,u,n,hu0,h,hmu,(kept i n u h hk' hu0).2.2.2 k hk⟩)
    ·rcases fresh i u n h hk' hu k hk.foot with g|g
     ·exact .inl g
     ·exact .inr (hE k (hO k g))
   ·rcases q3 i n hn with ⟨h,hkn⟩|⟨h,hkn⟩<;>rcases q3 j m hm with ⟨g,hkm⟩|⟨g,hkm⟩
    ·have hu0:=old i u n h hu
     have hv0:=old j v m g hv
     exact hM.sep i j u v n m hu0 h hmu hv0 g hij k ((kept i n u h hkn hu0).2.2.2 k hk1) ((kept j m v g hkm hv0).2.2.1 k hk2)
    ·exact apart i j u v n m h hkn hu g hkm hv k hk1.foot hk2
    ·exact apart j i v u m n g hkm hv h hkn hu k hk2 hk1.foot
    ·exact hM'.sep i j u v n m hu h hmu hv g hij k hk1 hk2
   ·rcases q3 i n hn with ⟨h,hk'⟩|⟨h,hk'⟩
    ·have hu0:=old i u n h hu
     exact .inr (hR k ⟨i,u,n,hu0,h,(kept i n u h hk' hu0).2.2.1 k hk⟩)
    ·rcases fresh i u n h hk' hu k hk with g|g
     ·exact .inl g
     ·obtain ⟨i',u',n',a1,a2,_,a4⟩:=hO k g
      exact .inr (hR k ⟨i',u',n',a1,a2,a4.foot⟩)
  ·cases h
 ·cases h
end Go.Proofs.Ytdenmoiaiemokaa
set_option linter.unusedVariables false
set_option linter.unusedSimpArgs false
namespace Go.Proofs.Ytdenmoiaiemokaa
open Go.RowKit
def C_clone:Ctr Td:=fun us sub=>match us,sub with
 |[.one (.obj 0)],[⟨.us (.byt l),false⟩]=>some ([l.length≤1000000],.c (.one (.obj 1)),[⟨.us (.byt l),false⟩,⟨.us (.own l),true⟩])
 |_,_=>none
theorem C_clone_ok:CtrOk Try.prog Id' 149 C_clone:=by
 intro us sub ps x sm h hp w e vs hM ha
 unfold C_clone at h
 split at h
 ·rename_i l
  simp only [Option.some.injEq,Prod.mk.injEq] at h
  obtain ⟨rfl,rfl,rfl⟩:=h
  have hL:l.length≤1000000:=hp _ (List.mem_cons_self ..)
  obtain ⟨u0,rfl,a0⟩:=allC1 ha
  have hE:e[0]? =some u0:=is_one a0
  refine (clone_c u0 l w (hM.holds 0 _ _ hE rfl) (by omega)).mono fun y w' ⟨ao,cap,g1,g2,g3⟩=>⟨.slice ao l.length cap,e++[.slice ao l.length cap],g1,Grows.push e _,?_,?_⟩
  ·show (e++[_])[1]? =some _
   have:=hM.len
   rw [List.getElem?_append_right (by rw [this];exact Nat.le_refl _),this];rfl
  ·exact hM.push g2 _ ⟨.us (.own l),true⟩ ⟨w.heap.size,g2.size,g3⟩ fun k hk=>owns_block g3 hk
 ·cases h
theorem RW_clone:RowOk Try.prog Id' hardD 149 (ctrF Id' (wkC C_clone) hardD):=ctrF_ok Try.call149 (wkC_ok C_clone_ok)
end Go.Proofs.Ytdenmoiaiemokaa
set_option linter.unusedVariables false
set_option linter.unusedSimpArgs false
namespace Go.Proofs.Ytdenmoiaiemokaa
open Go.RowKit
end Go.Proofs.Ytdenmoiaiemokaa
set_option linter.unusedVariables false
set_option linter.unusedSimpArgs false
namespace Go.Proofs.Ytdenmoiaiemokaa
open Go.RowKit
end Go.Proofs.Ytdenmoiaiemokaa
set_option linter.unusedVariables false
set_option linter.unusedSimpArgs false
namespace Go.Proofs.Ytdenmoiaiemokaa
open Go.RowKit
end Go.Proofs.Ytdenmoiaiemokaa
set_option linter.unusedVariables false
set_option linter.unusedSimpArgs false
namespace Go.Proofs.Ytdenmoiaiemokaa
open Go.RowKit
end Go.Proofs.Ytdenmoiaiemokaa
set_option linter.unusedVariables false
set_option linter.unusedSimpArgs false
namespace Go.Proofs.Ytdenmoiaiemokaa
open Go.RowKit
set_option maxRecDepth 100000 in
theorem rcopy_w0 (b:List UInt8) (h0:b.length≤1000000):∃ qs,wayO Id' (([⟨.us (.byt b),false⟩]:Mem Td):Mem Td).length [⟨.us (.byt b),false⟩,⟨.us (.own b),true⟩] (.c (.one (.obj 1))) ((runFn (⟨Try.prog,[],[],dkHo,Id'.one,60⟩:Sy Td) [] Try.f14 [.one (.obj 0)] ([⟨.us (.byt b),false⟩]:Mem Td)).al [])=some qs∧∀ q∈qs,q:=
 ⟨[b.length≤(1000000:Nat),(Th.byt b:Td)=Th.byt b,(Th.own b:Td)=Th.own b],by kernel_rfl,(by refine mcons ?_ (mcons ?_ (mcons ?_ mnil))<;>first|rfl|exact h0|trivial)⟩
def C_rcopy:Ctr Td:=fun us sub=>match us,sub with
 |[.one (.obj 0)],[⟨.us (.byt b),false⟩]=>some ([b.length≤1000000],.c (.one (.obj 1)),[⟨.us (.byt b),false⟩,⟨.us (.own b),true⟩])
 |_,_=>none
set_option maxRecDepth 100000 in
theorem C_rcopy_ok:CtrOk Try.prog Id' 14 C_rcopy:=by
 intro us sub ps x sm h hp w e vs hM ha
 unfold C_rcopy at h
 split at h
 ·rename_i b
  simp only [Option.some.injEq,Prod.mk.injEq] at h
  obtain ⟨rfl,rfl,rfl⟩:=h
  exact ctr_way (I:=Id') (fun (W0:World) (G:Nat→Prop)=>SyOk.mk2 Try.mixed dkHo_ok (FnsR.nil) EqsOk.nil) rfl Try.func14 (by kernel_rfl) (fun _ _=>LpsOk.nil _) (cs:=[]) (by kernel_rfl) (rcopy_w0 b (hp _ (List.mem_cons_self ..))) w e vs hM ha
 ·cases h
theorem R_rcopy:RowOk Try.prog Id' hardD 14 (ctrF Id' C_rcopy hardD):=ctrF_ok Try.call14 C_rcopy_ok
end Go.Proofs.Ytdenmoiaiemokaa
set_option linter.unusedVariables false
set_option linter.unusedSimpArgs false
namespace Go.Proofs.Ytdenmoiaiemokaa
open Go.RowKit
def allI (o n:Nat) (p:Int→Bool):Bool:=(List.range n).all fun j=>decide (j<o)||p (j:Int)
theorem allI_cases (o n:Nat) (p:Int→Bool):(allI o n p=true∧∀ i:Int,(o:Int)≤i→i.toNat<n→p i=true)∨(allI o n p=false∧∃ i:Int,(o:Int)≤i∧i.toNat<n∧p i=false):=by
 cases h:allI o n p with
 |true=>
  refine .inl ⟨rfl,fun i h0 h1=>?_⟩
  have:=List.all_eq_true.1 h i.toNat (List.mem_range.2 h1)
  rw [decide_eq_false (by omega),Bool.false_or,Int.toNat_of_nonneg (by omega)] at this
  exact this
 |false=>
  obtain ⟨j,h1,h2⟩:=List.all_eq_false.1 h
  rw [Bool.not_eq_true,Bool.or_eq_false_iff] at h2
  have:=of_decide_eq_false h2.1
  exact .inr ⟨rfl,(j:Int),by omega,by have:=List.mem_range.1 h1;omega,h2.2⟩
end Go.Proofs.Ytdenmoiaiemokaa
set_option linter.unusedVariables false
set_option linter.unusedSimpArgs false
namespace Go.Proofs.Ytdenmoiaiemokaa
open Go.RowKit
def badB (x:UInt8):Bool:=decide ((x.toNat:Int)≤32)||decide ((x.toNat:Int)≥127)||(x.toNat:Int)==47
def goodsB (s:ByteArray):Bool:=s.data.toList.all fun x=>!badB x
def nameB (s:ByteArray):Bool:=goodsB s&&(decide ((s.size:Int)>0)&&decide ((s.size:Int)<17)&&(!(s.toList==(⟨#[46]⟩:ByteArray).toList))&&(!(s.toList==(⟨#[46,46]⟩:ByteArray).toList)))
end Go.Proofs.Ytdenmoiaiemokaa
set_option linter.unusedVariables false
set_option linter.unusedSimpArgs false
namespace Go.Proofs.Ytdenmoiaiemokaa
open Go.RowKit
theorem byteArray_len (s:ByteArray):s.toList.length=s.size:=by rw [ByteArray.toList_eq];simp
end Go.Proofs.Ytdenmoiaiemokaa
set_option linter.unusedVariables false
set_option linter.unusedSimpArgs false
namespace Go.Proofs.Ytdenmoiaiemokaa
open Go.RowKit
def isE (nm:ByteArray) (a b c:Int):Bool:=nameB nm&&decide (a>0)&&decide (a<41)&&decide (b≥0)&&decide (b<2147483648)&&decide (c>0)&&decide (c<3)
end Go.Proofs.Ytdenmoiaiemokaa
set_option linter.unusedVariables false
set_option linter.unusedSimpArgs false
namespace Go.Proofs.Ytdenmoiaiemokaa
open Go.RowKit
def isR (r:Rw):Bool:=isE (r.ss.getD 0 ⟨#[]⟩) (r.is.getD 0 0) (r.is.getD 1 0) (r.is.getD 2 0)
def isI (R:List Rw) (i:Int):Bool:=isR (R.getD i.toNat Rw.zero)
end Go.Proofs.Ytdenmoiaiemokaa
set_option linter.unusedVariables false
set_option linter.unusedSimpArgs false
namespace Go.Proofs.Ytdenmoiaiemokaa
open Go.RowKit
def fstI (n:Nat) (p:Int→Bool):Int:=match (List.range n).find? (fun j:Nat=>!p (j:Int)) with|some j=>(j:Int)|none=>-1
theorem fst_cases (n:Nat) (p:Int→Bool):(fstI n p=-1∧∀ i:Int,((0:Nat):Int)≤i→i.toNat<n→p i=true)∨(((0:Nat):Int)≤fstI n p∧(fstI n p).toNat<n∧p (fstI n p)=false∧∀ i:Int,((0:Nat):Int)≤i→i<fstI n p→p i=true):=by
 unfold fstI
 cases h:(List.range n).find? (fun j:Nat=>!p (j:Int)) with
 |none=>
  refine .inl ⟨rfl,fun i h0 h1=>?_⟩
  have:=List.find?_eq_none.1 h i.toNat (List.mem_range.2 h1)
  rw [Int.toNat_of_nonneg (by omega)] at this
  simpa using this
 |some j=>
  obtain ⟨h1,h2,h3⟩:=List.find?_range_eq_some.1 h
  have h4:=List.mem_range.1 h2
  refine .inr ⟨by simp,by simpa using h4,by simpa using h1,fun i h0 hi=>?_⟩
  have hi:i<(j:Int):=hi
  have:=h3 i.toNat (by omega)
  rw [Int.toNat_of_nonneg (by omega)] at this
  simpa using this
end Go.Proofs.Ytdenmoiaiemokaa
set_option linter.unusedVariables false
set_option linter.unusedSimpArgs false
namespace Go.Proofs.Ytdenmoiaiemokaa
open Go.RowKit
def riseI (R:List Rw) (i:Int):Bool:=Op.bytesLess (nmR R (IntKind.i64.wrap (i - 1))).toList (nmR R i).toList
def riseD (R:List Rw) (i:Int):Bool:=!(!isI R i||decide (i>0)&&(Op.bytesLess (nmR R i).toList (nmR R (IntKind.i64.wrap (i - 1))).toList||(nmR R i).toList==(nmR R (IntKind.i64.wrap (i - 1))).toList))
end Go.Proofs.Ytdenmoiaiemokaa
set_option linter.unusedVariables false
set_option linter.unusedSimpArgs false
namespace Go.Proofs.Ytdenmoiaiemokaa
open Go.RowKit
def chI (nm:ByteArray) (i:Int):Int:=bif decide (i<(nm.size:Int)) then (((nm.data.toList.getD i.toNat 0).toNat:Nat):Int) else 0
def putN (s:WS) (nm:ByteArray):Nat→WS
 |0=>s
 |k+1=>(putN s nm k).put (chI nm (k:Int)) 8
end Go.Proofs.Ytdenmoiaiemokaa
set_option linter.unusedVariables false
set_option linter.unusedSimpArgs false
namespace Go.Proofs.Ytdenmoiaiemokaa
open Go.RowKit
def putW (s:WS) (nm:ByteArray) (a b c:Int):WS:=putN ((((s.put (IntKind.u64.wrap (nm.size:Int)) 5).put (IntKind.u64.wrap a) 6).put (IntKind.u64.wrap b) 31).put (IntKind.u64.wrap c) 2) nm 16
end Go.Proofs.Ytdenmoiaiemokaa
set_option linter.unusedVariables false
set_option linter.unusedSimpArgs false
namespace Go.Proofs.Ytdenmoiaiemokaa
open Go.RowKit
def putR (s:WS) (r:Rw):WS:=putW s (r.ss.getD 0 ⟨#[]⟩) (r.is.getD 0 0) (r.is.getD 1 0) (r.is.getD 2 0)
def putsW (s:WS) (Y:List Rw):Nat→WS
 |0=>s
 |k+1=>putR (putsW s Y k) (Y.getD k Rw.zero)
end Go.Proofs.Ytdenmoiaiemokaa
set_option linter.unusedVariables false
set_option linter.unusedSimpArgs false
namespace Go.Proofs.Ytdenmoiaiemokaa
open Go.RowKit
def blkP (Y:List Rw):List UInt8:=(putsW .new Y Y.length).out++List.replicate (IntKind.i64.wrap ((128:Int) - ((putsW .new Y Y.length).out.length:Int))).toNat 0
end Go.Proofs.Ytdenmoiaiemokaa
set_option linter.unusedVariables false
namespace Go.Proofs.Ytdenmoiaiemokaa
open Go.RowKit
theorem wput_len (s:WS) (x n:Int):(s.put x n).bl.length≤s.bl.length+n.toNat:=by
 simp only [WS.put,putL]
 split
 ·rw [List.length_append,bitsOf_length];exact Nat.le_refl _
 ·omega
theorem putN_len (s:WS) (nm:ByteArray):∀ k,(putN s nm k).bl.length≤s.bl.length+8 * k
 |0=>Nat.le_refl _
 |k+1=>by
  have:=putN_len s nm k
  have h:=wput_len (putN s nm k) (chI nm (k:Int)) 8
  show ((putN s nm k).put (chI nm (k:Int)) 8).bl.length≤_
  have:(8:Int).toNat=8:=rfl
  omega
theorem putW_len (s:WS) (nm:ByteArray) (a b c:Int):(putW s nm a b c).bl.length≤s.bl.length+172:=by
 unfold putW
 have h0:=putN_len ((((s.put (IntKind.u64.wrap (nm.size:Int)) 5).put (IntKind.u64.wrap a) 6).put (IntKind.u64.wrap b) 31).put (IntKind.u64.wrap c) 2) nm 16
 have h1:=wput_len s (IntKind.u64.wrap (nm.size:Int)) 5
 have h2:=wput_len (s.put (IntKind.u64.wrap (nm.size:Int)) 5) (IntKind.u64.wrap a) 6
 have h3:=wput_len ((s.put (IntKind.u64.wrap (nm.size:Int)) 5).put (IntKind.u64.wrap a) 6) (IntKind.u64.wrap b) 31
 have h4:=wput_len (((s.put (IntKind.u64.wrap (nm.size:Int)) 5).put (IntKind.u64.wrap a) 6).put (IntKind.u64.wrap b) 31) (IntKind.u64.wrap c) 2
 have e5:(5:Int).toNat=5:=rfl
 have e6:(6:Int).toNat=6:=rfl
 have e31:(31:Int).toNat=31:=rfl
 have e2:(2:Int).toNat=2:=rfl
 omega
theorem putsW_len (s:WS) (Y:List Rw):∀ k,(putsW s Y k).bl.length≤s.bl.length+172 * k
 |0=>Nat.le_refl _
 |k+1=>by
  have:=putsW_len s Y k
  have h:=putW_len (putsW s Y k) ((Y.getD k Rw.zero).ss.getD 0 ⟨#[]⟩) ((Y.getD k Rw.zero).is.getD 0 0) ((Y.getD k Rw.zero).is.getD 1 0) ((Y.getD k Rw.zero).is.getD 2 0)
  show (putR (putsW s Y k) (Y.getD k Rw.zero)).bl.length≤_
  unfold putR
  omega
theorem out_len (Y:List Rw) (h:Y.length≤5):(putsW .new Y Y.length).out.length≤128:=by
 have:=putsW_len .new Y Y.length
 have h0:(WS.new).bl.length=0:=rfl
 unfold WS.out
 split
 ·rw [packed_length];omega
 ·exact Nat.zero_le _
theorem w128 {Y:List Rw} (h:Y.length≤5):IntKind.i64.wrap ((128:Int) - ((putsW WS.new Y Y.length).out.length:Int))=(128:Int) - ((putsW WS.new Y Y.length).out.length:Int):=by
 have:=out_len Y h
 exact IntWalk.i64_in _ (by omega)
def blksP (R:List Rw):Nat→List (List UInt8)
 |0=>[]
 |k+1=>blksP R k++[blkP ((R.drop (5 * k)).take 5)]
def nbR (R:List Rw):Nat:=(R.length+4) / 5
theorem blksP_len (R:List Rw):∀ k,(blksP R k).length=k
 |0=>rfl
 |k+1=>by simp [blksP,blksP_len R k]
end Go.Proofs.Ytdenmoiaiemokaa
set_option linter.unusedVariables false
set_option linter.unusedSimpArgs false
namespace Go.Proofs.Ytdenmoiaiemokaa
open Go.RowKit
end Go.Proofs.Ytdenmoiaiemokaa
set_option linter.unusedVariables false
set_option linter.unusedSimpArgs false
namespace Go.Proofs.Ytdenmoiaiemokaa
open Go.RowKit
def okP (R:List Rw):Bool:=allI 1 R.length (riseI R)&&allI 0 R.length (isI R)
def dbE (R:List Rw):Int:=bif okP R then (bif decide ((R.length:Int)>24) then 8 else 0) else 2
def dbB (R:List Rw):List (List UInt8):=bif okP R&&!decide ((R.length:Int)>24) then blksP R (nbR R) else []
end Go.Proofs.Ytdenmoiaiemokaa
set_option linter.unusedVariables false
set_option linter.unusedSimpArgs false
namespace Go.Proofs.Ytdenmoiaiemokaa
open Go.RowKit
def nmB (l:List Bool) (nm:ByteArray):Nat→List Bool
 |0=>l
 |k+1=>nmB l nm k++bitsOf (IntKind.u64.wrap (chI nm (k:Int))).toNat 8
theorem nmB_len (l:List Bool) (nm:ByteArray):∀ k,(nmB l nm k).length=l.length+8 * k
 |0=>rfl
 |k+1=>by simp only [nmB,List.length_append,bitsOf_length,nmB_len l nm k];omega
end Go.Proofs.Ytdenmoiaiemokaa
set_option linter.unusedVariables false
set_option linter.unusedSimpArgs false
namespace Go.Proofs.Ytdenmoiaiemokaa
open Go.RowKit
def entB (l:List Bool) (r:Rw):List Bool:=nmB (l++bitsOf (IntKind.u64.wrap ((r.ss.getD 0 ⟨#[]⟩).size:Int)).toNat 5++bitsOf (IntKind.u64.wrap (r.is.getD 0 0)).toNat 6++bitsOf (IntKind.u64.wrap (r.is.getD 1 0)).toNat 31++bitsOf (IntKind.u64.wrap (r.is.getD 2 0)).toNat 2) (r.ss.getD 0 ⟨#[]⟩) 16
def entsB (R:List Rw):Nat→List Bool
 |0=>[]
 |k+1=>entB (entsB R k) (R.getD k Rw.zero)
theorem entB_len (l:List Bool) (r:Rw):(entB l r).length=l.length+172:=by
 unfold entB
 rw [nmB_len]
 simp only [List.length_append,bitsOf_length]
theorem entsB_len (R:List Rw):∀ k,(entsB R k).length=172 * k
 |0=>rfl
 |k+1=>by show (entB (entsB R k) _).length=_;rw [entB_len,entsB_len R k];omega
end Go.Proofs.Ytdenmoiaiemokaa
