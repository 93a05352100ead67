/- W7 W8 W9 W10 W11 W12 W13 W14 W15 W16 Y7 Y8 Y9 Y10 Y11 Y12 Y13 Y14 Y15 Y16 Y17 Y18 Y19 Y20 Y21 Y22 Y23 Y24 W17 W18 W19 W20 W21 W22 W23 W24 W25 W26 W27 W28 W29 W30 W31 W32 W33 W34 W35 W36 W37 W56 Y25 Y26 Y27 Y28 Y29 Y30 Y31 Y32 HV Y33 Y50 Y34 W57 W58 W59 W60 W61 Y38 Y35 Y39 Y36 Y40 Y37 Y41 Y42 Y43 Y44 Y45 Y46 Y47 W38 RC1 RC2 W39 W40 W41 Q1 Q2 Q3 Q4 W42 W43 W44 W45 W46 WRd WRr Y48. -/
import Derived.Test.YtdenmoiaiemokaaW6p
import Derived.Laws.RangeAny
import Derived.Laws.RangeString
import Derived.Lib.OthersKept
import Derived.LoopTactic
import Derived.IntWalk
import Derived.Test.YtdenmoiaiemokaaY6p
import Derived.Test.YtdenmoiaiemokaaH13p
import Derived.Laws.OwnMore
import Derived.Lib.SliceRun
import Derived.Test.YtdenmoiaiemokaaT19p
import Derived.Test.YtdenmoiaiemokaaW5p
import Derived.Test.YtdenmoiaiemokaaG3p
import Derived.Test.YtdenmoiaiemokaaF2p
import Derived.Test.YtdenmoiaiemokaaH9p
import Derived.Test.YtdenmoiaiemokaaT20p
import Derived.Test.YtdenmoiaiemokaaBasep
import Derived.Deep.QuietTactic
import Derived.Test.YtdenmoiaiemokaaH3p
import Derived.Test.YtdenmoiaiemokaaOpenp
set_option linter.unusedVariables false
set_option linter.unusedSimpArgs false
namespace Go.Proofs.Ytdenmoiaiemokaa
open Go.RowKit
end Go.Proofs.Ytdenmoiaiemokaa
set_option linter.unusedVariables false
namespace Go.Proofs.Ytdenmoiaiemokaa
open Go.RowKit
def tbE (L:List (List UInt8)) (i:Nat):List CD:=[.bs (L.getD i [])]
def wkO:Ob Td→Option (Ob Td)
 |.us (.ext (.tab (.bs L)))=>some (.us (.ext (.shr 1 L.length (tbE L))))
 |.us (.ext (.flat (.rw _ ks R)))=>(match ks with|[]=>none|_::_=>some (.us (.ext (.vw ks R))))
 |.us (.own l)=>some (.us (.byt l))
 |_=>none
def wkE (en:En Td):En Td:=match en.mu,wkO en.ob with
 |true,some o=>⟨o,false⟩
 |_,_=>en
def wkM:Mem Td→Mem Td
 |[]=>[]
 |en::r=>wkE en::wkM r
def kpE (en:En Td):Bool:=!en.mu||(match wkO en.ob with|some _=>true|none=>false)
def nwE (en:En Td):Bool:=match en.ob with
 |.dead=>true
 |.us (.ext (.flat _))=>en.mu
 |.us (.own _)=>en.mu
 |.blk _=>en.mu
 |.bx _=>en.mu
 |_=>false
def reW:Mem Td→Mem Td→Option (Mem Td)
 |[],[]=>some []
 |[],m::sm=>(match nwE m,reW [] sm with|true,some q=>some (m::q)|_,_=>none)
 |s::r,m::sm=>(match kpE s||nwE m,reW r sm with|true,some q=>some ((match kpE s with|true=>s|false=>m)::q)|_,_=>none)
 |_::_,[]=>none
def wkC (C:Ctr Td):Ctr Td:=fun us sub=>match C us (wkM sub) with
 |some (ps,x,sm)=>(match reW sub sm with|some q=>some (ps,x,q)|none=>none)
 |none=>none
theorem wkM_len:∀ m:Mem Td,(wkM m).length=m.length
 |[]=>rfl
 |_::r=>by simp [wkM,wkM_len r]
theorem wkM_get:∀ (m:Mem Td) (i:Nat),(wkM m)[i]? =m[i]?.map wkE
 |[],i=>by simp [wkM]
 |en::r,0=>by simp [wkM]
 |en::r,i+1=>by simp only [wkM,List.getElem?_cons_succ];exact wkM_get r i
theorem wkE_cases (en:En Td):(wkE en=en∧(en.mu=true→kpE en=false))∨(en.mu=true∧∃ o,wkO en.ob=some o∧wkE en=⟨o,false⟩):=by
 obtain ⟨ob,mu⟩:=en
 cases mu with
 |false=>exact .inl ⟨rfl,fun h=>by cases h⟩
 |true=>
  cases ho:wkO ob with
  |none=>exact .inl ⟨by simp [wkE,ho],fun _=>by simp [kpE,ho]⟩
  |some o=>exact .inr ⟨rfl,o,by first|exact ho|rfl,by simp [wkE,ho]⟩
theorem wkO_inv {ob o:Ob Td} (h:wkO ob=some o):(∃ t k ks R,ob=.us (.ext (.flat (.rw t (k::ks) R)))∧o=.us (.ext (.vw (k::ks) R)))∨(∃ l,ob=.us (.own l)∧o=.us (.byt l))∨∃ L,ob=.us (.ext (.tab (.bs L)))∧o=.us (.ext (.shr 1 L.length (tbE L))):=by
 unfold wkO at h
 split at h
 ·simp only [Option.some.injEq] at h;exact .inr (.inr ⟨_,rfl,h.symm⟩)
 ·rename_i t ks R
  cases ks with
  |nil=>cases h
  |cons k ks=>simp only [Option.some.injEq] at h;exact .inl ⟨t,k,ks,R,rfl,h.symm⟩
 ·simp only [Option.some.injEq] at h;exact .inr (.inl ⟨_,rfl,h.symm⟩)
 ·cases h
theorem tab0_cells:∀ {L:List (List UInt8)} {vals:List Value},vals.length=L.length→tabCells (TB.bs L).R vals=vals
 |[],[],_=>rfl
 |l::L,v::vals,h=>by
  have:=tab0_cells (L:=L) (vals:=vals) (by simpa using h)
  show tabCells (([],l)::(TB.bs L).R) (v::vals)=_
  rw [tabCells_cons,this];rfl
 |[],_::_,h=>by simp at h
 |_::_,[],h=>by simp at h
theorem tab0_at {w:World} {u:Value} {L:List (List UInt8)} (h:tabHolds (TB.bs L).t (TB.bs L).k (TB.bs L).R w u):∃ vals:List Value,vals.length=L.length∧Rs w 1 u L.length vals∧∀ (i:Nat) (v:Value),vals[i]? =some v→Bs w v (L.getD i []):=by
 obtain ⟨_,_,vals,hl,⟨B,_,ho⟩,hr⟩:=h
 have hR:(TB.bs L).R.length=L.length:=by simp [TB.R]
 rw [hR] at hl
 refine ⟨vals,hl,?_,fun i v hv=>?_⟩
 ·have:=Rs.of_owns ho
  rw [tab0_cells hl,hR] at this
  exact this
 ·have hi:i<L.length:=by rw [← hl];exact (List.getElem?_eq_some_iff.1 hv).1
  have:=(hr i v ([],L.getD i []) hv (by simp [TB.R,List.getD_eq_getElem?_getD,List.getElem?_eq_getElem hi])).1
  exact this
theorem wkO_holds {e:Env} {w:World} {u:Value} {m m':Bool} {ob o:Ob Td} (h:wkO ob=some o) (hh:Holds Id' e w u m ob):Holds Id' e w u m' o:=by
 rcases wkO_inv h with ⟨t,k,ks,R,rfl,rfl⟩|⟨l,rfl,rfl⟩|⟨L,rfl,rfl⟩
 ·obtain ⟨_,B,_,ho⟩:=hh
  have:=Rs.of_owns ho
  simp only [FL.len] at this
  exact ⟨by simp,this⟩
 ·obtain ⟨B,_,ho⟩:=hh
  exact Rs.of_owns ho
 ·obtain ⟨vals,hl,hR,hv⟩:=tab0_at hh
  refine ⟨by decide,vals,hR,fun i j c v hi hj hc hcv=>?_⟩
  obtain rfl:j=0:=by omega
  simp only [tbE,List.getElem?_cons_zero,Option.some.injEq] at hc
  subst hc
  exact hv i v (by simpa using hcv)
theorem wkO_foot {w:World} {u:Value} {ob o:Ob Td} (h:wkO ob=some o) {k:Nat} (hk:Foot Id' w u o k):Foot Id' w u ob k:=by
 rcases wkO_inv h with ⟨t,k',ks,R,rfl,rfl⟩|⟨l,rfl,rfl⟩|⟨L,rfl,rfl⟩
 ·exact hk.2
 ·exact hk.2
 ·rcases hk with hk|⟨i,j,c,v,hi,hj,hc,hf,⟨a,n,cap,hu,hcl⟩,hv⟩
  ·exact .inl hk.2
  ·obtain rfl:j=0:=by omega
   simp only [tbE,List.getElem?_cons_zero,Option.some.injEq] at hc
   subst hc
   refine .inr ⟨i,([],L.getD i []),v,?_,hf,⟨a,n,cap,hu,?_⟩,hv⟩
   ·simp [TB.R,List.getD_eq_getElem?_getD,List.getElem?_eq_getElem hi]
   ·have e:i * 1+0=i * (0+1)+0:=by omega
    rw [e] at hcl
    exact hcl
theorem wkE_foot {en:En Td} {w:World} {u:Value} {k:Nat} (h:Foot Id' w u (wkE en).ob k):Foot Id' w u en.ob k:=by
 rcases wkE_cases en with ⟨he,_⟩|⟨_,o,ho,he⟩
 ·rw [he] at h;exact h
 ·rw [he] at h;exact wkO_foot ho h
theorem wkE_mu {en:En Td} (h:(wkE en).mu=true):wkE en=en∧en.mu=true∧kpE en=false:=by
 rcases wkE_cases en with ⟨he,hk⟩|⟨_,o,ho,he⟩
 ·rw [he] at h;exact ⟨he,h,hk h⟩
 ·rw [he] at h;cases h
theorem wkM_inv {mem:Mem Td} {i:Nat} {n:En Td} (h:(wkM mem)[i]? =some n):∃ en,mem[i]? =some en∧n=wkE en:=by
 rw [wkM_get] at h
 cases hm:mem[i]? with
 |none=>rw [hm] at h;cases h
 |some en=>rw [hm] at h;simp only [Option.map_some,Option.some.injEq] at h;exact ⟨en,rfl,h.symm⟩
theorem nwE_own {en:En Td} (h:nwE en=true) {w:World} {u:Value} {k:Nat} (hk:Foot Id' w u en.ob k):en.mu=true∧Own Id' w u en.ob k:=by
 obtain ⟨ob,mu⟩:=en
 unfold nwE at h
 split at h
 ·rename_i hb;dsimp only at hb hk;rw [hb] at hk;cases hk
 ·rename_i hb;dsimp only at hb hk h ⊢;rw [hb] at hk ⊢;exact ⟨h,hk⟩
 ·rename_i hb;dsimp only at hb hk h ⊢;rw [hb] at hk ⊢;exact ⟨h,hk⟩
 ·rename_i hb;dsimp only at hb hk h ⊢;rw [hb] at hk ⊢;exact ⟨h,hk⟩
 ·rename_i hb;dsimp only at hb hk h ⊢;rw [hb] at hk ⊢;exact ⟨h,hk⟩
 ·cases h
theorem reW_get:∀ {sub sm q:Mem Td},reW sub sm=some q→q.length=sm.length∧sub.length≤sm.length∧∀ (i:Nat) (n:En Td),q[i]? =some n→(sub[i]? =some n∧kpE n=true)∨(sm[i]? =some n∧nwE n=true)
 |[],[],q,h=>by
  simp only [reW,Option.some.injEq] at h
  subst h
  exact ⟨rfl,Nat.le_refl _,fun i n h=>by simp at h⟩
 |[],m::sm,q,h=>by
  unfold reW at h
  split at h
  ·rename_i q' h1 h2
   simp only [Option.some.injEq] at h
   subst h
   obtain ⟨g1,g2,g3⟩:=reW_get h2
   refine ⟨by simp [g1],by simp,fun i n hn=>?_⟩
   cases i with
   |zero=>simp only [List.getElem?_cons_zero,Option.some.injEq] at hn;subst hn;exact .inr ⟨rfl,h1⟩
   |succ i=>
    rw [List.getElem?_cons_succ] at hn
    rcases g3 i n hn with ⟨h5,_⟩|h5
    ·simp at h5
    ·exact .inr h5
  ·cases h
 |s::r,m::sm,q,h=>by
  unfold reW at h
  split at h
  ·rename_i q' h1 h2
   simp only [Option.some.injEq] at h
   subst h
   obtain ⟨g1,g2,g3⟩:=reW_get h2
   refine ⟨by simp [g1],by simp only [List.length_cons];omega,fun i n hn=>?_⟩
   cases i with
   |zero=>
    simp only [List.getElem?_cons_zero,Option.some.injEq] at hn
    subst hn
    cases hk:kpE s with
    |true=>exact .inl ⟨rfl,hk⟩
    |false=>rw [hk] at h1;exact .inr ⟨rfl,by simpa using h1⟩
   |succ i=>
    rw [List.getElem?_cons_succ] at hn
    exact g3 i n hn
  ·cases h
 |_::_,[],q,h=>by simp [reW] at h
theorem wkC_ok {P:Program} {f:FuncId} {C:Ctr Td} (hC:CtrOk P Id' f C):CtrOk P Id' f (wkC C):=by
 intro us sub ps x q h hp w e vs hM ha
 unfold wkC at h
 split at h
 ·rename_i ps' x' sm h1
  split at h
  ·rename_i q' h2
   simp only [Option.some.injEq,Prod.mk.injEq] at h
   obtain ⟨rfl,rfl,rfl⟩:=h
   have hO:∀ k,OwnOf Id' w e (wkM sub) k→OwnOf Id' w e sub k:=fun k ⟨i,u,n,hu,hn,hmu,hk⟩=>by
    obtain ⟨en,g1,rfl⟩:=wkM_inv hn
    obtain ⟨g2,g3,_⟩:=wkE_mu hmu
    rw [g2] at hk
    exact ⟨i,u,en,hu,g1,g3,hk⟩
   have hF:∀ k,FootOf Id' w e (wkM sub) (2 * k)→OwnOf Id' w e (wkM sub) k:=fun k hk=>by
    rcases hk with ⟨_,hk⟩|⟨hk,_⟩
    ·rw [show 2 * k / 2=k by omega] at hk;exact hk
    ·omega
   have hE:∀ k,OwnOf Id' w e sub k→FootOf Id' w e sub (2 * k):=fun k hk=>.inl ⟨by omega,by rw [show 2 * k / 2=k by omega];exact hk⟩
   have hR:∀ k,ReadOf Id' w e sub k→¬ FootOf Id' w e sub (2 * k+1):=fun k hk hk'=>by
    rcases hk' with ⟨h,_⟩|⟨_,h⟩
    ·omega
    ·rw [show (2 * k+1) / 2=k by omega] at h;exact h hk
   have hs:MemOk w (FootOf Id' w e (wkM sub)) Id' w e (wkM sub):=by
    refine ⟨by rw [wkM_len];exact hM.len,fun i u n hu hn=>?_,fun i u n hu hn k hk=>?_,fun i u n hu hn hmu k hk=>?_,fun i j u v n m hu hn hmu hv hm hij k hk1 hk2=>?_,Mod.refl _ _,fun i u n hu hn k hk=>.inr fun hg=>?_⟩
    ·obtain ⟨en,g1,rfl⟩:=wkM_inv hn
     have hh:=hM.holds i u en hu g1
     rcases wkE_cases en with ⟨he,_⟩|⟨_,o,ho,he⟩
     ·rw [he];exact hh
     ·rw [he];exact wkO_holds ho hh
    ·obtain ⟨en,g1,rfl⟩:=wkM_inv hn
     exact hM.lt i u en hu g1 k (wkE_foot hk)
    ·exact .inr (.inl ⟨by omega,by rw [show 2 * k / 2=k by omega];exact ⟨i,u,n,hu,hn,hmu,hk⟩⟩)
    ·obtain ⟨en,g1,rfl⟩:=wkM_inv hn
     obtain ⟨em,g2,rfl⟩:=wkM_inv hm
     obtain ⟨g3,g4,_⟩:=wkE_mu hmu
     rw [g3] at hk1
     exact hM.sep i j u v en em hu g1 g4 hv g2 hij k hk1 (wkE_foot hk2)
    ·rcases hg with ⟨h,_⟩|⟨_,h⟩
     ·omega
     ·rw [show (2 * k+1) / 2=k by omega] at h;exact h ⟨i,u,n,hu,hn,hk⟩
   refine (hC us (wkM sub) ps' x' sm h1 hp w e vs hs ha).mono fun y w' ⟨v,e',hy,hg,hx,hM'⟩=>⟨v,e',hy,hg,hx,?_⟩
   obtain ⟨q1,q2,q3⟩:=reW_get h2
   -- what is kept is not turned
   have kept:∀ (i:Nat) (n:En Td) (u:Value),sub[i]? =some n→kpE n=true→e[i]? =some u→(∀ k,Foot Id' w u n.ob k→¬ OwnOf Id' w e (wkM sub) k)∧Holds Id' e' w' u n.mu n.ob∧(∀ k,Foot Id' w' u n.ob k→Foot Id' w u n.ob k)∧∀ k,Own Id' w' u n.ob k→Own Id' w u n.ob k:=fun i n u hn hk hu=>by
    have hno:∀ k,Foot Id' w u n.ob k→¬ OwnOf Id' w e (wkM sub) k:=fun k hk1 ⟨j,v,m,hv,hm,hmu,hk2⟩=>by
     obtain ⟨em,g1,rfl⟩:=wkM_inv hm
     obtain ⟨g2,g3,g4⟩:=wkE_mu hmu
     rw [g2] at hk2
     refine hM.sep j i v u em n hv g1 g3 hu hn (fun hij=>?_) k hk2 hk1
     subst hij
     rw [hn] at g1
     cases g1
     rw [hk] at g4;cases g4
    have hh:=hM.holds i u n hu hn
    have hst:=hh.stay hM'.mod (fun k hk1 hk2=>hno k hk1 (hF k hk2))
    exact ⟨hno,hst.1.mono hg,hst.2,hh.stayO hM'.mod (fun k hk1 hk2=>hno k hk1 (hF k hk2))⟩
   have old:∀ (i:Nat) (u:Value) (n:En Td),sub[i]? =some n→e'[i]? =some u→e[i]? =some u:=fun i u n hn hu=>by
    have hlt:i<e.length:=by rw [hM.len];exact (List.getElem?_eq_some_iff.1 hn).1
    have:=hg i _ (List.getElem?_eq_getElem hlt)
    rw [hu] at this
    cases this
    exact List.getElem?_eq_getElem hlt
   have fresh:∀ (i:Nat) (u:Value) (n:En Td),sm[i]? =some n→nwE n=true→e'[i]? =some u→∀ k,Foot Id' w' u n.ob k→w.heap.size≤k∨OwnOf Id' w e (wkM sub) k:=fun i u n hn hw hu k hk=>by
    obtain ⟨g1,g2⟩:=nwE_own hw hk
    rcases hM'.own i u n hu hn g1 k g2 with h|h
    ·exact .inl h
    ·exact .inr (hF k h)
   have apart:∀ (i j:Nat) (u v:Value) (n m:En Td),sub[i]? =some n→kpE n=true→e'[i]? =some u→sm[j]? =some m→nwE m=true→e'[j]? =some v→∀ k,Foot Id' w' u n.ob k→¬ Foot Id' w' v m.ob k:=fun i j u v n m hn hkn hu hm hwm hv k hk1 hk2=>by
    have hu0:=old i u n hn hu
    obtain ⟨g1,_,g3,_⟩:=kept i n u hn hkn hu0
    rcases fresh j v m hm hwm hv k hk2 with h|h
    ·have:=hM.lt i u n hu0 hn k (g3 k hk1);omega
    ·exact g1 k (g3 k hk1) h
   refine ⟨by rw [q1];exact hM'.len,fun i u n hu hn=>?_,fun i u n hu hn k hk=>?_,fun i u n hu hn hmu k hk=>?_,fun i j u v n m hu hn hmu hv hm hij k hk1 hk2=>?_,hM'.mod.mono fun k _ hk=>hE k (hO k (hF k hk)),fun i u n hu hn k hk=>?_⟩
   ·rcases q3 i n hn with ⟨h,hk⟩|⟨h,hk⟩
    ·exact (kept i n u h hk (old i u n h hu)).2.1
    ·exact hM'.holds i u n hu h
   ·rcases q3 i n hn with ⟨h,hk'⟩|⟨h,hk'⟩
    ·have hu0:=old i u n h hu
     have:=hM.lt i u n hu0 h k ((kept i n u h hk' hu0).2.2.1 k hk)
     exact Nat.lt_of_lt_of_le this hM'.mod.size
    ·exact hM'.lt i u n hu h k hk
   ·rcases q3 i n hn with ⟨h,hk'⟩|⟨h,hk'⟩
    ·have hu0:=old i u n h hu
     exact .inr (hE k ⟨i,u,n,hu0,h,hmu,(kept i n u h hk' hu0).2.2.2 k hk⟩)
    ·rcases fresh i u n h hk' hu k hk.foot with g|g
     ·exact .inl g
     ·exact .inr (hE k (hO k g))
   ·rcases q3 i n hn with ⟨h,hkn⟩|⟨h,hkn⟩<;>rcases q3 j m hm with ⟨g,hkm⟩|⟨g,hkm⟩
    ·have hu0:=old i u n h hu
     have hv0:=old j v m g hv
     exact hM.sep i j u v n m hu0 h hmu hv0 g hij k ((kept i n u h hkn hu0).2.2.2 k hk1) ((kept j m v g hkm hv0).2.2.1 k hk2)
    ·exact apart i j u v n m h hkn hu g hkm hv k hk1.foot hk2
    ·exact apart j i v u m n g hkm hv h hkn hu k hk2 hk1.foot
    ·exact hM'.sep i j u v n m hu h hmu hv g hij k hk1 hk2
   ·rcases q3 i n hn with ⟨h,hk'⟩|⟨h,hk'⟩
    ·have hu0:=old i u n h hu
     exact .inr (hR k ⟨i,u,n,hu0,h,(kept i n u h hk' hu0).2.2.1 k hk⟩)
    ·rcases fresh i u n h hk' hu k hk with g|g
     ·exact .inl g
     ·obtain ⟨i',u',n',a1,a2,_,a4⟩:=hO k g
      exact .inr (hR k ⟨i',u',n',a1,a2,a4.foot⟩)
  ·cases h
 ·cases h
end Go.Proofs.Ytdenmoiaiemokaa
set_option linter.unusedVariables false
set_option linter.unusedSimpArgs false
namespace Go.Proofs.Ytdenmoiaiemokaa
open Go.RowKit
def allI (o n:Nat) (p:Int→Bool):Bool:=(List.range n).all fun j=>decide (j<o)||p (j:Int)
theorem allI_cases (o n:Nat) (p:Int→Bool):(allI o n p=true∧∀ i:Int,(o:Int)≤i→i.toNat<n→p i=true)∨(allI o n p=false∧∃ i:Int,(o:Int)≤i∧i.toNat<n∧p i=false):=by
 cases h:allI o n p with
 |true=>
  refine .inl ⟨rfl,fun i h0 h1=>?_⟩
  have:=List.all_eq_true.1 h i.toNat (List.mem_range.2 h1)
  rw [decide_eq_false (by omega),Bool.false_or,Int.toNat_of_nonneg (by omega)] at this
  exact this
 |false=>
  obtain ⟨j,h1,h2⟩:=List.all_eq_false.1 h
  rw [Bool.not_eq_true,Bool.or_eq_false_iff] at h2
  have:=of_decide_eq_false h2.1
  exact .inr ⟨rfl,(j:Int),by omega,by have:=List.mem_range.1 h1;omega,h2.2⟩
end Go.Proofs.Ytdenmoiaiemokaa
set_option linter.unusedVariables false
set_option linter.unusedSimpArgs false
namespace Go.Proofs.Ytdenmoiaiemokaa
open Go.RowKit
def badB (x:UInt8):Bool:=decide ((x.toNat:Int)≤32)||decide ((x.toNat:Int)≥127)||(x.toNat:Int)==47
def goodsB (s:ByteArray):Bool:=s.data.toList.all fun x=>!badB x
def nameB (s:ByteArray):Bool:=goodsB s&&(decide ((s.size:Int)>0)&&decide ((s.size:Int)<17)&&(!(s.toList==(⟨#[46]⟩:ByteArray).toList))&&(!(s.toList==(⟨#[46,46]⟩:ByteArray).toList)))
end Go.Proofs.Ytdenmoiaiemokaa
set_option linter.unusedVariables false
set_option linter.unusedSimpArgs false
namespace Go.Proofs.Ytdenmoiaiemokaa
open Go.RowKit
theorem byteArray_len (s:ByteArray):s.toList.length=s.size:=by rw [ByteArray.toList_eq];simp
end Go.Proofs.Ytdenmoiaiemokaa
set_option linter.unusedVariables false
set_option linter.unusedSimpArgs false
namespace Go.Proofs.Ytdenmoiaiemokaa
open Go.RowKit
def isE (nm:ByteArray) (a b c:Int):Bool:=nameB nm&&decide (a>0)&&decide (a<41)&&decide (b≥0)&&decide (b<2147483648)&&decide (c>0)&&decide (c<3)
end Go.Proofs.Ytdenmoiaiemokaa
set_option linter.unusedVariables false
set_option linter.unusedSimpArgs false
namespace Go.Proofs.Ytdenmoiaiemokaa
open Go.RowKit
def isR (r:Rw):Bool:=isE (r.ss.getD 0 ⟨#[]⟩) (r.is.getD 0 0) (r.is.getD 1 0) (r.is.getD 2 0)
def isI (R:List Rw) (i:Int):Bool:=isR (R.getD i.toNat Rw.zero)
end Go.Proofs.Ytdenmoiaiemokaa
set_option linter.unusedVariables false
set_option linter.unusedSimpArgs false
namespace Go.Proofs.Ytdenmoiaiemokaa
open Go.RowKit
def fstI (n:Nat) (p:Int→Bool):Int:=match (List.range n).find? (fun j:Nat=>!p (j:Int)) with|some j=>(j:Int)|none=>-1
theorem fst_cases (n:Nat) (p:Int→Bool):(fstI n p=-1∧∀ i:Int,((0:Nat):Int)≤i→i.toNat<n→p i=true)∨(((0:Nat):Int)≤fstI n p∧(fstI n p).toNat<n∧p (fstI n p)=false∧∀ i:Int,((0:Nat):Int)≤i→i<fstI n p→p i=true):=by
 unfold fstI
 cases h:(List.range n).find? (fun j:Nat=>!p (j:Int)) with
 |none=>
  refine .inl ⟨rfl,fun i h0 h1=>?_⟩
  have:=List.find?_eq_none.1 h i.toNat (List.mem_range.2 h1)
  rw [Int.toNat_of_nonneg (by omega)] at this
  simpa using this
 |some j=>
  obtain ⟨h1,h2,h3⟩:=List.find?_range_eq_some.1 h
  have h4:=List.mem_range.1 h2
  refine .inr ⟨by simp,by simpa using h4,by simpa using h1,fun i h0 hi=>?_⟩
  have hi:i<(j:Int):=hi
  have:=h3 i.toNat (by omega)
  rw [Int.toNat_of_nonneg (by omega)] at this
  simpa using this
end Go.Proofs.Ytdenmoiaiemokaa
set_option linter.unusedVariables false
set_option linter.unusedSimpArgs false
namespace Go.Proofs.Ytdenmoiaiemokaa
open Go.RowKit
def riseI (R:List Rw) (i:Int):Bool:=Op.bytesLess (nmR R (IntKind.i64.wrap (i - 1))).toList (nmR R i).toList
def riseD (R:List Rw) (i:Int):Bool:=!(!isI R i||decide (i>0)&&(Op.bytesLess (nmR R i).toList (nmR R (IntKind.i64.wrap (i - 1))).toList||(nmR R i).toList==(nmR R (IntKind.i64.wrap (i - 1))).toList))
end Go.Proofs.Ytdenmoiaiemokaa
set_option linter.unusedVariables false
set_option linter.unusedSimpArgs false
namespace Go.Proofs.Ytdenmoiaiemokaa
open Go.RowKit
def chI (nm:ByteArray) (i:Int):Int:=bif decide (i<(nm.size:Int)) then (((nm.data.toList.getD i.toNat 0).toNat:Nat):Int) else 0
def putN (s:WS) (nm:ByteArray):Nat→WS
 |0=>s
 |k+1=>(putN s nm k).put (chI nm (k:Int)) 8
end Go.Proofs.Ytdenmoiaiemokaa
set_option linter.unusedVariables false
set_option linter.unusedSimpArgs false
namespace Go.Proofs.Ytdenmoiaiemokaa
open Go.RowKit
def hitR (Y:List Rw) (a b c i:Int):Bool:=(Y.getD i.toNat Rw.zero).is.getD 0 0==a&&((Y.getD i.toNat Rw.zero).is.getD 1 0==b&&true)&&(Y.getD i.toNat Rw.zero).is.getD 2 0==c
def atP (Y:List Rw) (a b c i:Int):Bool:=!hitR Y a b c i
def atE (Y:List Rw) (a b c:Int):Int:=fstI Y.length (atP Y a b c)
theorem hit_no {Y:List Rw} {a b c i:Int} (h:atP Y a b c i=true):hitR Y a b c i=false:=by simpa [atP] using h
theorem hit_yes {Y:List Rw} {a b c i:Int} (h:atP Y a b c i=false):hitR Y a b c i=true:=by simpa [atP] using h
end Go.Proofs.Ytdenmoiaiemokaa
set_option linter.unusedVariables false
set_option linter.unusedSimpArgs false
namespace Go.Proofs.Ytdenmoiaiemokaa
open Go.RowKit
end Go.Proofs.Ytdenmoiaiemokaa
set_option linter.unusedVariables false
set_option linter.unusedSimpArgs false
namespace Go.Proofs.Ytdenmoiaiemokaa
open Go.RowKit
end Go.Proofs.Ytdenmoiaiemokaa
set_option linter.unusedVariables false
set_option linter.unusedSimpArgs false
namespace Go.Proofs.Ytdenmoiaiemokaa
open Go.RowKit
end Go.Proofs.Ytdenmoiaiemokaa
set_option linter.unusedVariables false
set_option linter.unusedSimpArgs false
namespace Go.Proofs.Ytdenmoiaiemokaa
open Go.RowKit
def hsE (Y:List Rw) (a b c:Int):Bool:=!(fstI Y.length (atP Y a b c)==-1)
end Go.Proofs.Ytdenmoiaiemokaa
set_option linter.unusedVariables false
set_option linter.unusedSimpArgs false
namespace Go.Proofs.Ytdenmoiaiemokaa
open Go.RowKit
def wtE (Y:List Rw) (a b c:Int):Int:=bif (decide (c<0)||decide (c>7)) then 2 else bif hsE Y a b c then 10 else 0
def wtT (Y:List Rw) (a b c:Int):List Rw:=bif (decide (c<0)||decide (c>7)) then Y else bif hsE Y a b c then Y else Y++[⟨[a,b,c],[]⟩]
end Go.Proofs.Ytdenmoiaiemokaa
set_option linter.unusedVariables false
set_option linter.unusedSimpArgs false
namespace Go.Proofs.Ytdenmoiaiemokaa
open Go.RowKit
def nr3 (r:Rw):Rw:=⟨[r.is.getD 0 0,r.is.getD 1 0,r.is.getD 2 0],[]⟩
theorem nil_rw3 {t:TypeId} {ks:List Bool} {X:List Rw} (h:X=[]):∀ w,Id'.holds (Th.ext (Dk.flat (FL.rw t ks X)):Td) w nilV∧∀ j,¬ Id'.foot (Th.ext (Dk.flat (FL.rw t ks X)):Td) w nilV j:=by
 subst h
 exact fun w=>⟨⟨(fun r hr=>by cases hr),0,Nat.zero_le _,owns_nilV w 0 _ _⟩,(fun j h=>by cases h)⟩
end Go.Proofs.Ytdenmoiaiemokaa
set_option linter.unusedVariables false
set_option linter.unusedSimpArgs false
namespace Go.Proofs.Ytdenmoiaiemokaa
open Go.RowKit
end Go.Proofs.Ytdenmoiaiemokaa
set_option linter.unusedVariables false
set_option linter.unusedSimpArgs false
namespace Go.Proofs.Ytdenmoiaiemokaa
open Go.RowKit
def neS (Y:List Rw) (a b:Int) (L:List Int):Nat→List Rw×Int
 |0=>(Y,0)
 |k+1=>(wtT (neS Y a b L k).1 a b (L.getD k 0),bif wtE (neS Y a b L k).1 a b (L.getD k 0)==0 then (neS Y a b L k).2+1 else (neS Y a b L k).2)
theorem wtT_len (Y:List Rw) (a b c:Int):(wtT Y a b c).length≤Y.length+1:=by
 unfold wtT
 cases (decide (c<0)||decide (c>7)) with
 |true=>simp only [cond_true];omega
 |false=>
  cases hsE Y a b c with
  |true=>simp only [cond_true,cond_false];omega
  |false=>simp only [cond_false,List.length_append,List.length_cons,List.length_nil];omega
theorem neS_len (Y:List Rw) (a b:Int) (L:List Int):∀ k,(neS Y a b L k).1.length≤Y.length+k∧0≤(neS Y a b L k).2∧(neS Y a b L k).2≤(k:Int)
 |0=>⟨Nat.le_refl _,Int.le_refl _,Int.le_refl _⟩
 |k+1=>by
  obtain ⟨h1,h2,h3⟩:=neS_len Y a b L k
  have h4:=wtT_len (neS Y a b L k).1 a b (L.getD k 0)
  refine ⟨by show (wtT _ _ _ _).length≤_;omega,?_⟩
  show 0≤(bif _ then _ else _)∧(bif _ then _ else _)≤_
  cases wtE (neS Y a b L k).1 a b (L.getD k 0)==0 with
  |true=>simp only [cond_true];omega
  |false=>simp only [cond_false];omega
end Go.Proofs.Ytdenmoiaiemokaa
set_option linter.unusedVariables false
set_option linter.unusedSimpArgs false
namespace Go.Proofs.Ytdenmoiaiemokaa
open Go.RowKit
theorem hitw_eq (Y:List Rw) (a b c i:Int):(a==(Y.getD i.toNat Rw.zero).is.getD 0 0&&(b==(Y.getD i.toNat Rw.zero).is.getD 1 0&&true)&&(c==(Y.getD i.toNat Rw.zero).is.getD 2 0&&true))=hitR Y a b c i:=by
 unfold hitR
 have h:∀ x y:Int,(x==y)=(y==x):=fun x y=>by
  cases h1:(x==y) with
  |true=>rw [eq_of_beq h1];exact (beq_self_eq_true y).symm
  |false=>exact ((beq_eq_false_iff_ne.2 fun e=>beq_eq_false_iff_ne.1 h1 e.symm)).symm
 rw [h a,h b,h c,Bool.and_true ((Y.getD i.toNat Rw.zero).is.getD 2 0==c)]
theorem hitw_no {Y:List Rw} {a b c i:Int} (h:atP Y a b c i=true):(a==(Y.getD i.toNat Rw.zero).is.getD 0 0&&(b==(Y.getD i.toNat Rw.zero).is.getD 1 0&&true)&&(c==(Y.getD i.toNat Rw.zero).is.getD 2 0&&true))=false:=by rw [hitw_eq,hit_no h]
theorem hitw_yes {Y:List Rw} {a b c i:Int} (h:atP Y a b c i=false):(a==(Y.getD i.toNat Rw.zero).is.getD 0 0&&(b==(Y.getD i.toNat Rw.zero).is.getD 1 0&&true)&&(c==(Y.getD i.toNat Rw.zero).is.getD 2 0&&true))=true:=by rw [hitw_eq,hit_yes h]
set_option maxRecDepth 100000 in
theorem six_n (Y:List Rw) (a b c:Int) (i i2:Int) (k:Nat) (f:Nat→Value) (h0:decide (i<(Y.length:Int))=true) (h1:IntKind.i64.wrap (i+1)=i2) (h2:0≤i∧i.toNat<Y.length) (h3:atP Y a b c (i)=true):∃ qs,alN Id' 2 [(8,.c (.one (.v (.int .i64 i2))))] [⟨.us (.ext (.flat (.rw 72 [false,false,false] Y))),false⟩,⟨.blk [.v (.int .i64 a),.v (.int .i64 b),.v (.int .i64 c)],true⟩] ((symC (⟨Try.prog,[],[E_of Try.prog 57,E_of Try.prog 72],dkHo,Id'.one,60⟩:Sy Td) [] 19 (hdC (loopsC (bodyOf Try.f152)) 0) ⟨[(8,.c (.one (.v (.int .i64 i))))]++anyB' (writesC (hdC (loopsC (bodyOf Try.f152)) 0)) ([(0,.c (.one (.obj 0))),(3,.c (.one (.ptr 1 0))),(7,.c (.one (.v (.int .i64 (Y.length:Int)))))]++tabV f 19),[⟨.us (.ext (.flat (.rw 72 [false,false,false] Y))),false⟩,⟨.blk [.v (.int .i64 a),.v (.int .i64 b),.v (.int .i64 c)],true⟩],0⟩).al [true,false])=some qs∧∀ q∈qs,q:=
 ⟨[decide (i<(↑Y.length:Int))=true,(0:Int)≤i∧i.toNat<(FL.rw 72 [false,false,false] Y).n,(a==(Y.getD i.toNat Rw.zero).is.getD (0:Nat) (0:Int)&&(b==(Y.getD i.toNat Rw.zero).is.getD ((0:Nat)+(1:Nat)) (0:Int)&&true)&&(c==(Y.getD i.toNat Rw.zero).is.getD ((0:Nat)+(1:Nat)+(1:Nat)) (0:Int)&&true))=false,(Th.ext (Dk.flat (FL.rw 72 [false,false,false] Y)):Td)=Th.ext (Dk.flat (FL.rw 72 [false,false,false] Y)),Value.int IntKind.i64 a=Value.int IntKind.i64 a,Value.int IntKind.i64 b=Value.int IntKind.i64 b,Value.int IntKind.i64 c=Value.int IntKind.i64 c,Value.int IntKind.i64 (IntKind.i64.wrap (i+(1:Int)))=Value.int IntKind.i64 i2],by kernel_rfl,(by refine mcons ?_ (mcons ?_ (mcons ?_ (mcons ?_ (mcons ?_ (mcons ?_ (mcons ?_ (mcons ?_ mnil)))))))<;>first|rfl|exact h0|exact h1|exact h2|exact h3|trivial|(exact congrArg _ h1)|(exact h2)|(exact hitw_no h3)|(exact hitw_yes h3))⟩
set_option maxRecDepth 100000 in
theorem six_x (Y:List Rw) (a b c:Int) (i i2:Int) (k:Nat) (f:Nat→Value) (h0:decide (i<(Y.length:Int))=false):∃ qs,alX Id' 2 0 [] [⟨.us (.ext (.flat (.rw 72 [false,false,false] Y))),false⟩,⟨.blk [.v (.int .i64 a),.v (.int .i64 b),.v (.int .i64 c)],true⟩] ((symC (⟨Try.prog,[],[E_of Try.prog 57,E_of Try.prog 72],dkHo,Id'.one,60⟩:Sy Td) [] 19 (hdC (loopsC (bodyOf Try.f152)) 0) ⟨[(8,.c (.one (.v (.int .i64 i))))]++anyB' (writesC (hdC (loopsC (bodyOf Try.f152)) 0)) ([(0,.c (.one (.obj 0))),(3,.c (.one (.ptr 1 0))),(7,.c (.one (.v (.int .i64 (Y.length:Int)))))]++tabV f 19),[⟨.us (.ext (.flat (.rw 72 [false,false,false] Y))),false⟩,⟨.blk [.v (.int .i64 a),.v (.int .i64 b),.v (.int .i64 c)],true⟩],0⟩).al [false])=some qs∧∀ q∈qs,q:=
 ⟨[decide (i<(↑Y.length:Int))=false,(Th.ext (Dk.flat (FL.rw 72 [false,false,false] Y)):Td)=Th.ext (Dk.flat (FL.rw 72 [false,false,false] Y)),Value.int IntKind.i64 a=Value.int IntKind.i64 a,Value.int IntKind.i64 b=Value.int IntKind.i64 b,Value.int IntKind.i64 c=Value.int IntKind.i64 c],by kernel_rfl,(by refine mcons ?_ (mcons ?_ (mcons ?_ (mcons ?_ (mcons ?_ mnil))))<;>first|rfl|exact h0|trivial|(exact congrArg _ h1)|(exact h2)|(exact hitw_no h3)|(exact hitw_yes h3))⟩
set_option maxRecDepth 100000 in
theorem six_lpA (Y:List Rw) (a b c:Int) (hL:Y.length≤100000)  (hall:∀ i:Int,0≤i→i.toNat<Y.length→atP Y a b c (i)=true) {W0:World} {G:Nat→Prop} (S0:Sy Td) (hS0:S0.P=Try.prog):LoopSound S0 Id' W0 G 19 (hdC (loopsC (bodyOf Try.f152)) 0) (lpG Id' 19 (hdC (loopsC (bodyOf Try.f152)) 0) 2 [(8,.c (.one (.v (.int .i64 ((0+0:Nat):Int)))))] [(0,.c (.one (.obj 0))),(3,.c (.one (.ptr 1 0))),(7,.c (.one (.v (.int .i64 (Y.length:Int)))))] [⟨.us (.ext (.flat (.rw 72 [false,false,false] Y))),false⟩,⟨.blk [.v (.int .i64 a),.v (.int .i64 b),.v (.int .i64 c)],true⟩] (.leaf (.exit 0) [] [⟨.us (.ext (.flat (.rw 72 [false,false,false] Y))),false⟩,⟨.blk [.v (.int .i64 a),.v (.int .i64 b),.v (.int .i64 c)],true⟩])):=by
 refine lp_sound (V:=fun k=>[(8,.c (.one (.v (.int .i64 ((k+0:Nat):Int)))))]) (M:=(fun k=>[⟨.us (.ext (.flat (.rw 72 [false,false,false] Y))),false⟩,⟨.blk [.v (.int .i64 a),.v (.int .i64 b),.v (.int .i64 c)],true⟩]:Nat→Mem Td)) (N:=Y.length) (Ux:=fun k x=>match x with|.exit 0=>some ([],([⟨.us (.ext (.flat (.rw 72 [false,false,false] Y))),false⟩,⟨.blk [.v (.int .i64 a),.v (.int .i64 b),.v (.int .i64 c)],true⟩]:Mem Td))|_=>none) (X:=fun _ _=>True) (J:=fun k=>True) (fun k=>by kernel_rfl) trivial (fun k hk hJ f=>?_) (fun K hK k x U hk hU hX=>?_)
 ·rw [hS0]
  cases hT:decide (((k+0:Nat):Int)<(Y.length:Int)) with
  |false=>
   exact rnd_xD (⟨Try.prog,[],[E_of Try.prog 57,E_of Try.prog 72],dkHo,Id'.one,60⟩:Sy Td) rfl ((fun (W0:World) (G:Nat→Prop)=>SyOk.mk2 Try.mixed dkHo_ok (FnsR.nil) (E_of_ok (by kernel_rfl) (E_of_ok (by kernel_rfl) (EqsOk.nil)))) W0 G) (six_x Y a b c ((k+0:Nat):Int) ((k+1+0:Nat):Int) k f hT) rfl trivial
  |true=>
   have hk1:=of_decide_eq_true hT
   have hW:IntKind.i64.wrap (((k+0:Nat):Int)+1)=((k+1+0:Nat):Int):=by rw [IntWalk.i64_in _ (by omega)];omega
   exact rnd_nD (⟨Try.prog,[],[E_of Try.prog 57,E_of Try.prog 72],dkHo,Id'.one,60⟩:Sy Td) rfl ((fun (W0:World) (G:Nat→Prop)=>SyOk.mk2 Try.mixed dkHo_ok (FnsR.nil) (E_of_ok (by kernel_rfl) (E_of_ok (by kernel_rfl) (EqsOk.nil)))) W0 G) (six_n Y a b c ((k+0:Nat):Int) ((k+1+0:Nat):Int) k f hT hW (by omega) (hall _ (by omega) (by omega)) ) rfl rfl (by omega) trivial
 ·revert hU
  match x with
  |.exit 0=>intro hU;simp only [Option.some.injEq] at hU;subst hU;exact hK
  |.normal=>intro hU;cases hU
  |.ret=>intro hU;cases hU
  |.exit (n+1)=>intro hU;cases hU
set_option maxRecDepth 100000 in
theorem six_r (Y:List Rw) (a b c:Int) (i i2:Int) (k:Nat) (f:Nat→Value) (h0:decide (i<(Y.length:Int))=true) (h1:i=i2) (h2:0≤i∧i.toNat<Y.length) (h3:atP Y a b c (i)=false):∃ qs,alR Id' 2 [(4,.c (.one (.v (.int .i64 i2))))] [⟨.us (.ext (.flat (.rw 72 [false,false,false] Y))),false⟩,⟨.blk [.v (.int .i64 a),.v (.int .i64 b),.v (.int .i64 c)],true⟩] ((symC (⟨Try.prog,[],[E_of Try.prog 57,E_of Try.prog 72],dkHo,Id'.one,60⟩:Sy Td) [] 19 (hdC (loopsC (bodyOf Try.f152)) 0) ⟨[(8,.c (.one (.v (.int .i64 i))))]++anyB' (writesC (hdC (loopsC (bodyOf Try.f152)) 0)) ([(0,.c (.one (.obj 0))),(3,.c (.one (.ptr 1 0))),(7,.c (.one (.v (.int .i64 (Y.length:Int)))))]++tabV f 19),[⟨.us (.ext (.flat (.rw 72 [false,false,false] Y))),false⟩,⟨.blk [.v (.int .i64 a),.v (.int .i64 b),.v (.int .i64 c)],true⟩],0⟩).al [true,true])=some qs∧∀ q∈qs,q:=
 ⟨[decide (i<(↑Y.length:Int))=true,(0:Int)≤i∧i.toNat<(FL.rw 72 [false,false,false] Y).n,(a==(Y.getD i.toNat Rw.zero).is.getD (0:Nat) (0:Int)&&(b==(Y.getD i.toNat Rw.zero).is.getD ((0:Nat)+(1:Nat)) (0:Int)&&true)&&(c==(Y.getD i.toNat Rw.zero).is.getD ((0:Nat)+(1:Nat)+(1:Nat)) (0:Int)&&true))=true,(Th.ext (Dk.flat (FL.rw 72 [false,false,false] Y)):Td)=Th.ext (Dk.flat (FL.rw 72 [false,false,false] Y)),Value.int IntKind.i64 a=Value.int IntKind.i64 a,Value.int IntKind.i64 b=Value.int IntKind.i64 b,Value.int IntKind.i64 c=Value.int IntKind.i64 c,Value.int IntKind.i64 i=Value.int IntKind.i64 i2],by kernel_rfl,(by refine mcons ?_ (mcons ?_ (mcons ?_ (mcons ?_ (mcons ?_ (mcons ?_ (mcons ?_ (mcons ?_ mnil)))))))<;>first|rfl|exact h0|exact h1|exact h2|exact h3|trivial|(exact congrArg _ h1)|(exact h2)|(exact hitw_no h3)|(exact hitw_yes h3))⟩
set_option maxRecDepth 100000 in
theorem six_lpR (Y:List Rw) (a b c:Int) (e:Int) (hL:Y.length≤100000)  (he0:0≤e∧e.toNat<Y.length) (he1:atP Y a b c (e)=false) (he2:∀ i:Int,0≤i→i<e→atP Y a b c (i)=true) {W0:World} {G:Nat→Prop} (S0:Sy Td) (hS0:S0.P=Try.prog):LoopSound S0 Id' W0 G 19 (hdC (loopsC (bodyOf Try.f152)) 0) (lpG Id' 19 (hdC (loopsC (bodyOf Try.f152)) 0) 2 [(8,.c (.one (.v (.int .i64 ((0+0:Nat):Int)))))] [(0,.c (.one (.obj 0))),(3,.c (.one (.ptr 1 0))),(7,.c (.one (.v (.int .i64 (Y.length:Int)))))] [⟨.us (.ext (.flat (.rw 72 [false,false,false] Y))),false⟩,⟨.blk [.v (.int .i64 a),.v (.int .i64 b),.v (.int .i64 c)],true⟩] (.leaf .ret [(4,.c (.one (.v (.int .i64 e))))] [⟨.us (.ext (.flat (.rw 72 [false,false,false] Y))),false⟩,⟨.blk [.v (.int .i64 a),.v (.int .i64 b),.v (.int .i64 c)],true⟩])):=by
 refine lp_sound (V:=fun k=>[(8,.c (.one (.v (.int .i64 ((k+0:Nat):Int)))))]) (M:=(fun k=>[⟨.us (.ext (.flat (.rw 72 [false,false,false] Y))),false⟩,⟨.blk [.v (.int .i64 a),.v (.int .i64 b),.v (.int .i64 c)],true⟩]:Nat→Mem Td)) (N:=Y.length) (Ux:=fun k x=>match x with|.ret=>some ([(4,.c (.one (.v (.int .i64 e))))],([⟨.us (.ext (.flat (.rw 72 [false,false,false] Y))),false⟩,⟨.blk [.v (.int .i64 a),.v (.int .i64 b),.v (.int .i64 c)],true⟩]:Mem Td))|_=>none) (X:=fun _ _=>True) (J:=fun k=>((k+0:Nat):Int)≤e) (fun k=>by kernel_rfl) (by omega) (fun k hk hJ f=>?_) (fun K hK k x U hk hU hX=>?_)
 ·rw [hS0]
  cases hT:decide (((k+0:Nat):Int)<(Y.length:Int)) with
  |false=>
   have:=of_decide_eq_false hT
   omega
  |true=>
   have hk1:=of_decide_eq_true hT
   have hW:IntKind.i64.wrap (((k+0:Nat):Int)+1)=((k+1+0:Nat):Int):=by rw [IntWalk.i64_in _ (by omega)];omega
   cases hq:atP Y a b c (((k+0:Nat):Int)) with
   |true=>
    exact rnd_nD (⟨Try.prog,[],[E_of Try.prog 57,E_of Try.prog 72],dkHo,Id'.one,60⟩:Sy Td) rfl ((fun (W0:World) (G:Nat→Prop)=>SyOk.mk2 Try.mixed dkHo_ok (FnsR.nil) (E_of_ok (by kernel_rfl) (E_of_ok (by kernel_rfl) (EqsOk.nil)))) W0 G) (six_n Y a b c ((k+0:Nat):Int) ((k+1+0:Nat):Int) k f hT hW (by omega) hq ) rfl rfl (by omega) (by
     rcases Int.lt_or_eq_of_le hJ with h|h
     ·omega
     ·rw [h,he1] at hq;cases hq)
   |false=>
    have hie:((k+0:Nat):Int)=e:=by
     rcases Int.lt_or_eq_of_le hJ with h|h
     ·rw [he2 _ (by omega) h] at hq;cases hq
     ·exact h
    exact rnd_rD (⟨Try.prog,[],[E_of Try.prog 57,E_of Try.prog 72],dkHo,Id'.one,60⟩:Sy Td) rfl ((fun (W0:World) (G:Nat→Prop)=>SyOk.mk2 Try.mixed dkHo_ok (FnsR.nil) (E_of_ok (by kernel_rfl) (E_of_ok (by kernel_rfl) (EqsOk.nil)))) W0 G) (six_r Y a b c ((k+0:Nat):Int) e k f hT hie (by omega) hq ) rfl trivial
 ·revert hU
  match x with
  |.ret=>intro hU;simp only [Option.some.injEq] at hU;subst hU;exact hK
  |.normal=>intro hU;cases hU
  |.exit n=>intro hU;cases hU
set_option maxRecDepth 100000 in
theorem sixA_w0 (Y:List Rw) (a b c:Int) :∃ qs,wayV ((runFn (⟨Try.prog,[],[E_of Try.prog 57,E_of Try.prog 72],dkHo,Id'.one,60⟩:Sy Td) [(2,(lpG Id' 19 (hdC (loopsC (bodyOf Try.f152)) 0) 2 [(8,.c (.one (.v (.int .i64 ((0+0:Nat):Int)))))] [(0,.c (.one (.obj 0))),(3,.c (.one (.ptr 1 0))),(7,.c (.one (.v (.int .i64 (Y.length:Int)))))] [⟨.us (.ext (.flat (.rw 72 [false,false,false] Y))),false⟩,⟨.blk [.v (.int .i64 a),.v (.int .i64 b),.v (.int .i64 c)],true⟩] (.leaf (.exit 0) [] [⟨.us (.ext (.flat (.rw 72 [false,false,false] Y))),false⟩,⟨.blk [.v (.int .i64 a),.v (.int .i64 b),.v (.int .i64 c)],true⟩])))] Try.f152 [.one (.obj 0),.agg [.v (.int .i64 a),.v (.int .i64 b),.v (.int .i64 c)]] (roM [⟨.us (.ext (.flat (.rw 72 [false,false,false] Y))),true⟩])).al []) (fun u=>u=.int .i64 (-1))=some qs∧∀ q∈qs,q:=
 ⟨[Value.int IntKind.i64 (Int.negSucc 0)=Value.int IntKind.i64 (Int.negSucc 0),Value.int IntKind.i64 (↑(FL.rw 72 [false,false,false] Y).n:Int)=Value.int IntKind.i64 (↑Y.length:Int),(Th.ext (Dk.flat (FL.rw 72 [false,false,false] Y)):Td)=Th.ext (Dk.flat (FL.rw 72 [false,false,false] Y)),Value.int IntKind.i64 a=Value.int IntKind.i64 a,Value.int IntKind.i64 b=Value.int IntKind.i64 b,Value.int IntKind.i64 c=Value.int IntKind.i64 c,Value.int IntKind.i64 (Int.ofNat 0)=Value.int IntKind.i64 (Int.ofNat ((0:Nat)+(0:Nat)))],by kernel_rfl,(by refine mcons ?_ (mcons ?_ (mcons ?_ (mcons ?_ (mcons ?_ (mcons ?_ (mcons ?_ mnil))))))<;>first|rfl|trivial)⟩
set_option maxRecDepth 100000 in
theorem sixR_w0 (Y:List Rw) (a b c:Int) (e:Int) :∃ qs,wayV ((runFn (⟨Try.prog,[],[E_of Try.prog 57,E_of Try.prog 72],dkHo,Id'.one,60⟩:Sy Td) [(2,(lpG Id' 19 (hdC (loopsC (bodyOf Try.f152)) 0) 2 [(8,.c (.one (.v (.int .i64 ((0+0:Nat):Int)))))] [(0,.c (.one (.obj 0))),(3,.c (.one (.ptr 1 0))),(7,.c (.one (.v (.int .i64 (Y.length:Int)))))] [⟨.us (.ext (.flat (.rw 72 [false,false,false] Y))),false⟩,⟨.blk [.v (.int .i64 a),.v (.int .i64 b),.v (.int .i64 c)],true⟩] (.leaf .ret [(4,.c (.one (.v (.int .i64 e))))] [⟨.us (.ext (.flat (.rw 72 [false,false,false] Y))),false⟩,⟨.blk [.v (.int .i64 a),.v (.int .i64 b),.v (.int .i64 c)],true⟩])))] Try.f152 [.one (.obj 0),.agg [.v (.int .i64 a),.v (.int .i64 b),.v (.int .i64 c)]] (roM [⟨.us (.ext (.flat (.rw 72 [false,false,false] Y))),true⟩])).al []) (fun u=>u=.int .i64 e)=some qs∧∀ q∈qs,q:=
 ⟨[Value.int IntKind.i64 e=Value.int IntKind.i64 e,Value.int IntKind.i64 (↑(FL.rw 72 [false,false,false] Y).n:Int)=Value.int IntKind.i64 (↑Y.length:Int),(Th.ext (Dk.flat (FL.rw 72 [false,false,false] Y)):Td)=Th.ext (Dk.flat (FL.rw 72 [false,false,false] Y)),Value.int IntKind.i64 a=Value.int IntKind.i64 a,Value.int IntKind.i64 b=Value.int IntKind.i64 b,Value.int IntKind.i64 c=Value.int IntKind.i64 c,Value.int IntKind.i64 (Int.ofNat 0)=Value.int IntKind.i64 (Int.ofNat ((0:Nat)+(0:Nat)))],by kernel_rfl,(by refine mcons ?_ (mcons ?_ (mcons ?_ (mcons ?_ (mcons ?_ (mcons ?_ (mcons ?_ mnil))))))<;>first|rfl|trivial)⟩
def C_six:CtrV Td:=fun us sub=>match us,sub with
 |[.one (.obj 0),.agg [.v (.int .i64 a),.v (.int .i64 b),.v (.int .i64 c)]],[⟨.us (.ext (.flat (.rw 72 [false,false,false] Y))),false⟩]=>some ([Y.length≤100000],.int .i64 (atE Y a b c))
 |_,_=>none
set_option maxRecDepth 100000 in
theorem C_six_ok:CtrVOk Try.prog Id' 152 C_six:=by
 intro us sub ps x h hp w e vs hM ha
 unfold C_six at h
 split at h
 ·rename_i a b c Y
  simp only [Option.some.injEq,Prod.mk.injEq] at h
  obtain ⟨rfl,rfl⟩:=h
  have hL:Y.length≤100000:=hp _ (List.mem_cons_self ..)
  rcases fst_cases Y.length (atP Y a b c) with ⟨hv,hall⟩|⟨h1,h2,h3,h4⟩
  ·unfold atE
   rw [hv]
   exact ctrv_way (I:=Id') (fun (W0:World) (G:Nat→Prop)=>SyOk.mk2 Try.mixed dkHo_ok (FnsR.nil) (E_of_ok (by kernel_rfl) (E_of_ok (by kernel_rfl) (EqsOk.nil)))) rfl Try.func152 (by kernel_rfl) (fun W0 G=>LpsOk.cons (by kernel_rfl) (six_lpA Y a b c hL hall _ rfl) (LpsOk.nil _)) (cs:=[]) (by kernel_rfl) (sixA_w0 Y a b c ) w e vs hM ha
  ·exact ctrv_way (I:=Id') (fun (W0:World) (G:Nat→Prop)=>SyOk.mk2 Try.mixed dkHo_ok (FnsR.nil) (E_of_ok (by kernel_rfl) (E_of_ok (by kernel_rfl) (EqsOk.nil)))) rfl Try.func152 (by kernel_rfl) (fun W0 G=>LpsOk.cons (by kernel_rfl) (six_lpR Y a b c _ hL ⟨h1,h2⟩ h3 h4 _ rfl) (LpsOk.nil _)) (cs:=[]) (by kernel_rfl) (sixR_w0 Y a b c _ ) w e vs hM ha
 ·cases h
theorem R_six:RowOk Try.prog Id' hardD 152 (ctrV C_six hardD):=ctrV_ok Try.call152 C_six_ok
end Go.Proofs.Ytdenmoiaiemokaa
set_option linter.unusedVariables false
set_option linter.unusedSimpArgs false
namespace Go.Proofs.Ytdenmoiaiemokaa
open Go.RowKit
theorem sct_ge (Y:List Rw) (a b c:Int):decide (atE Y a b c≥0)=hsE Y a b c:=by
 unfold hsE atE
 rcases fst_cases Y.length (atP Y a b c) with ⟨hv,_⟩|⟨h1,_,_,_⟩
 ·rw [hv];rfl
 ·rw [beq_eq_false_iff_ne.2 (by omega:fstI Y.length (atP Y a b c)≠-1),decide_eq_true (by omega:fstI Y.length (atP Y a b c)≥0)];rfl
set_option maxRecDepth 100000 in
theorem sct_w0 (Y:List Rw) (a b c:Int) (h0:Y.length≤100000):∃ qs,wayV ((runFn (⟨Try.prog,[(152,ctrV C_six hardD)],[E_of Try.prog 57,E_of Try.prog 72],dkHo,Id'.one,60⟩:Sy Td) [] Try.f106 [.one (.obj 0),.agg [.v (.int .i64 a),.v (.int .i64 b),.v (.int .i64 c)]] (roM [⟨.us (.ext (.flat (.rw 72 [false,false,false] Y))),true⟩])).al []) (fun u=>u=.bool (hsE Y a b c))=some qs∧∀ q∈qs,q:=
 ⟨[Value.bool (decide (atE Y a b c≥(0:Int)))=Value.bool (hsE Y a b c),Y.length≤(100000:Nat)],by kernel_rfl,(by refine mcons ?_ (mcons ?_ mnil)<;>first|rfl|exact h0|trivial|(exact h0)|(exact congrArg Value.bool (sct_ge Y a b c)))⟩
def C_sct:CtrV Td:=fun us sub=>match us,sub with
 |[.one (.obj 0),.agg [.v (.int .i64 a),.v (.int .i64 b),.v (.int .i64 c)]],[⟨.us (.ext (.flat (.rw 72 [false,false,false] Y))),false⟩]=>some ([Y.length≤100000],.bool (hsE Y a b c))
 |_,_=>none
set_option maxRecDepth 100000 in
theorem C_sct_ok:CtrVOk Try.prog Id' 106 C_sct:=by
 intro us sub ps x h hp w e vs hM ha
 unfold C_sct at h
 split at h
 ·rename_i a b c Y
  simp only [Option.some.injEq,Prod.mk.injEq] at h
  obtain ⟨rfl,rfl⟩:=h
  have hL:Y.length≤100000:=hp _ (List.mem_cons_self ..)
  exact ctrv_way (I:=Id') (fun (W0:World) (G:Nat→Prop)=>SyOk.mk2 Try.mixed dkHo_ok (FnsR.cons (R_six) (FnsR.nil)) (E_of_ok (by kernel_rfl) (E_of_ok (by kernel_rfl) (EqsOk.nil)))) rfl Try.func106 (by kernel_rfl) (fun W0 G=>LpsOk.nil _) (cs:=[]) (by kernel_rfl) (sct_w0 Y a b c hL) w e vs hM ha
 ·cases h
theorem R_sct:RowOk Try.prog Id' hardD 106 (ctrV C_sct hardD):=ctrV_ok Try.call106 C_sct_ok
end Go.Proofs.Ytdenmoiaiemokaa
set_option linter.unusedVariables false
set_option linter.unusedSimpArgs false
namespace Go.Proofs.Ytdenmoiaiemokaa
open Go.RowKit
set_option maxRecDepth 100000 in
theorem phs_w0 (Y:List Rw) (a b c:Int) (h0:Y.length≤100000):∃ qs,wayV ((runFn (⟨Try.prog,[(106,ctrV C_sct hardD)],[E_of Try.prog 57,E_of Try.prog 72],dkHo,Id'.one,60⟩:Sy Td) [] Try.f42 [.one (.ptr 0 0),.agg [.v (.int .i64 a),.v (.int .i64 b)],.one (.v (.int .i64 c))] (roM [⟨.bx [.obj 1],true⟩,⟨.us (.ext (.flat (.rw 72 [false,false,false] Y))),true⟩])).al []) (fun u=>u=.bool (hsE Y a b c))=some qs∧∀ q∈qs,q:=
 ⟨[Value.bool (hsE Y a b c)=Value.bool (hsE Y a b c),Y.length≤(100000:Nat)],by kernel_rfl,(by refine mcons ?_ (mcons ?_ mnil)<;>first|rfl|exact h0|trivial|(exact h0))⟩
def C_phs:CtrV Td:=fun us sub=>match us,sub with
 |[.one (.ptr 0 0),.agg [.v (.int .i64 a),.v (.int .i64 b)],.one (.v (.int .i64 c))],[⟨.bx [.obj 1],false⟩,⟨.us (.ext (.flat (.rw 72 [false,false,false] Y))),false⟩]=>some ([Y.length≤100000],.bool (hsE Y a b c))
 |_,_=>none
set_option maxRecDepth 100000 in
theorem C_phs_ok:CtrVOk Try.prog Id' 42 C_phs:=by
 intro us sub ps x h hp w e vs hM ha
 unfold C_phs at h
 split at h
 ·rename_i a b c Y
  simp only [Option.some.injEq,Prod.mk.injEq] at h
  obtain ⟨rfl,rfl⟩:=h
  have hL:Y.length≤100000:=hp _ (List.mem_cons_self ..)
  exact ctrv_way (I:=Id') (fun (W0:World) (G:Nat→Prop)=>SyOk.mk2 Try.mixed dkHo_ok (FnsR.cons (R_sct) (FnsR.nil)) (E_of_ok (by kernel_rfl) (E_of_ok (by kernel_rfl) (EqsOk.nil)))) rfl Try.func42 (by kernel_rfl) (fun W0 G=>LpsOk.nil _) (cs:=[]) (by kernel_rfl) (phs_w0 Y a b c hL) w e vs hM ha
 ·cases h
theorem R_phs:RowOk Try.prog Id' hardD 42 (ctrV C_phs hardD):=ctrV_ok Try.call42 C_phs_ok
end Go.Proofs.Ytdenmoiaiemokaa
set_option linter.unusedVariables false
set_option linter.unusedSimpArgs false
namespace Go.Proofs.Ytdenmoiaiemokaa
open Go.RowKit
set_option maxRecDepth 100000 in
theorem pwt_w0 (Y:List Rw) (a b c:Int) (h0:(decide (c<0)||decide (c≥8))=true) (h1:(decide (c<0)||decide (c>7))=true):∃ qs,wayO Id' ([⟨.bx [.obj 1],true⟩,⟨.us (.ext (.flat (.rw 72 [false,false,false] Y))),true⟩]:Mem Td).length [⟨.bx [.obj 2],true⟩,⟨.dead,true⟩,⟨.us (.ext (.flat (.rw 72 [false,false,false] (wtT Y a b c)))),true⟩] (.c (.one (.v (.int .i64 (wtE Y a b c))))) ((runFn (⟨Try.prog,[(42,ctrV C_phs hardD)],[E_of Try.prog 57,E_of Try.prog 72],dkHo,Id'.one,60⟩:Sy Td) [] Try.f35 [.one (.ptr 0 0),.agg [.v (.int .i64 a),.v (.int .i64 b)],.one (.v (.int .i64 c))] [⟨.bx [.obj 1],true⟩,⟨.us (.ext (.flat (.rw 72 [false,false,false] Y))),true⟩]).al [true])=some qs∧∀ q∈qs,q:=
 ⟨[(decide (c<(0:Int))||decide (c≥(8:Int)))=true,(Th.ext (Dk.flat (FL.rw 72 [false,false,false] Y)):Td)=Th.ext (Dk.flat (FL.rw 72 [false,false,false] (wtT Y a b c))),Value.int IntKind.i64 (Int.ofNat 2)=Value.int IntKind.i64 (wtE Y a b c)],by kernel_rfl,(by refine mcons ?_ (mcons ?_ (mcons ?_ mnil))<;>first|rfl|exact h0|exact h1|trivial|(exact congrArg (fun x=>(Th.ext (Dk.flat (FL.rw 72 [false,false,false] x)):Td)) (show _=wtT Y a b c by rw [wtT,h1,h2];rfl))|(exact congrArg (fun x=>(Th.ext (Dk.flat (FL.rw 72 [false,false,false] x)):Td)) (show _=wtT Y a b c by rw [wtT,h1];rfl))|(exact congrArg (Value.int .i64) (show _=wtE Y a b c by rw [wtE,h1,h2];rfl))|(exact congrArg (Value.int .i64) (show _=wtE Y a b c by rw [wtE,h1];rfl))|(exact Nat.le_trans h3 (by decide))|(show Y.length+1≤100000;omega))⟩
set_option maxRecDepth 100000 in
theorem pwt_w1 (Y:List Rw) (a b c:Int) (h0:(decide (c<0)||decide (c≥8))=false) (h1:(decide (c<0)||decide (c>7))=false) (h2:hsE Y a b c=true) (h3:Y.length≤10000):∃ qs,wayO Id' ([⟨.bx [.obj 1],true⟩,⟨.us (.ext (.flat (.rw 72 [false,false,false] Y))),true⟩]:Mem Td).length [⟨.bx [.obj 2],true⟩,⟨.dead,true⟩,⟨.us (.ext (.flat (.rw 72 [false,false,false] (wtT Y a b c)))),true⟩] (.c (.one (.v (.int .i64 (wtE Y a b c))))) ((runFn (⟨Try.prog,[(42,ctrV C_phs hardD)],[E_of Try.prog 57,E_of Try.prog 72],dkHo,Id'.one,60⟩:Sy Td) [] Try.f35 [.one (.ptr 0 0),.agg [.v (.int .i64 a),.v (.int .i64 b)],.one (.v (.int .i64 c))] [⟨.bx [.obj 1],true⟩,⟨.us (.ext (.flat (.rw 72 [false,false,false] Y))),true⟩]).al [false,true])=some qs∧∀ q∈qs,q:=
 ⟨[(decide (c<(0:Int))||decide (c≥(8:Int)))=false,Y.length≤(100000:Nat),hsE Y a b c=true,(Th.ext (Dk.flat (FL.rw 72 [false,false,false] Y)):Td)=Th.ext (Dk.flat (FL.rw 72 [false,false,false] (wtT Y a b c))),Value.int IntKind.i64 (Int.ofNat 10)=Value.int IntKind.i64 (wtE Y a b c)],by kernel_rfl,(by refine mcons ?_ (mcons ?_ (mcons ?_ (mcons ?_ (mcons ?_ mnil))))<;>first|rfl|exact h0|exact h1|exact h2|exact h3|trivial|(exact congrArg (fun x=>(Th.ext (Dk.flat (FL.rw 72 [false,false,false] x)):Td)) (show _=wtT Y a b c by rw [wtT,h1,h2];rfl))|(exact congrArg (fun x=>(Th.ext (Dk.flat (FL.rw 72 [false,false,false] x)):Td)) (show _=wtT Y a b c by rw [wtT,h1];rfl))|(exact congrArg (Value.int .i64) (show _=wtE Y a b c by rw [wtE,h1,h2];rfl))|(exact congrArg (Value.int .i64) (show _=wtE Y a b c by rw [wtE,h1];rfl))|(exact Nat.le_trans h3 (by decide))|(show Y.length+1≤100000;omega))⟩
set_option maxRecDepth 100000 in
theorem pwt_w2 (Y:List Rw) (a b c:Int) (h0:(decide (c<0)||decide (c≥8))=false) (h1:(decide (c<0)||decide (c>7))=false) (h2:hsE Y a b c=false) (h3:Y.length≤10000):∃ qs,wayO Id' ([⟨.bx [.obj 1],true⟩,⟨.us (.ext (.flat (.rw 72 [false,false,false] Y))),true⟩]:Mem Td).length [⟨.bx [.obj 2],true⟩,⟨.dead,true⟩,⟨.us (.ext (.flat (.rw 72 [false,false,false] (wtT Y a b c)))),true⟩] (.c (.one (.v (.int .i64 (wtE Y a b c))))) ((runFn (⟨Try.prog,[(42,ctrV C_phs hardD)],[E_of Try.prog 57,E_of Try.prog 72],dkHo,Id'.one,60⟩:Sy Td) [] Try.f35 [.one (.ptr 0 0),.agg [.v (.int .i64 a),.v (.int .i64 b)],.one (.v (.int .i64 c))] [⟨.bx [.obj 1],true⟩,⟨.us (.ext (.flat (.rw 72 [false,false,false] Y))),true⟩]).al [false,false])=some qs∧∀ q∈qs,q:=
 ⟨[(decide (c<(0:Int))||decide (c≥(8:Int)))=false,Y.length≤(100000:Nat),hsE Y a b c=false,Y.length+[Rw.mk [a,b,c] []].length≤(100000:Nat),(Th.ext (Dk.flat (FL.rw 72 [false,false,false] (Y++[⟨[a,b,c],[]⟩]))):Td)=Th.ext (Dk.flat (FL.rw 72 [false,false,false] (wtT Y a b c))),Value.int IntKind.i64 (Int.ofNat 0)=Value.int IntKind.i64 (wtE Y a b c)],by kernel_rfl,(by refine mcons ?_ (mcons ?_ (mcons ?_ (mcons ?_ (mcons ?_ (mcons ?_ mnil)))))<;>first|rfl|exact h0|exact h1|exact h2|exact h3|trivial|(exact congrArg (fun x=>(Th.ext (Dk.flat (FL.rw 72 [false,false,false] x)):Td)) (show _=wtT Y a b c by rw [wtT,h1,h2];rfl))|(exact congrArg (fun x=>(Th.ext (Dk.flat (FL.rw 72 [false,false,false] x)):Td)) (show _=wtT Y a b c by rw [wtT,h1];rfl))|(exact congrArg (Value.int .i64) (show _=wtE Y a b c by rw [wtE,h1,h2];rfl))|(exact congrArg (Value.int .i64) (show _=wtE Y a b c by rw [wtE,h1];rfl))|(exact Nat.le_trans h3 (by decide))|(show Y.length+1≤100000;omega))⟩
theorem bad_eq (c:Int):(decide (c<0)||decide (c>7))=(decide (c<0)||decide (c≥8)):=by
 rw [show decide (c>7)=decide (c≥8) from decide_eq_decide.2 ⟨by omega,by omega⟩]
def C_pwt:Ctr Td:=fun us sub=>match us,sub with
 |[.one (.ptr 0 0),.agg [.v (.int .i64 a),.v (.int .i64 b)],.one (.v (.int .i64 c))],[⟨.bx [.obj 1],true⟩,⟨.us (.ext (.flat (.rw 72 [false,false,false] Y))),true⟩]=>some ([Y.length≤10000],.c (.one (.v (.int .i64 (wtE Y a b c)))),[⟨.bx [.obj 2],true⟩,⟨.dead,true⟩,⟨.us (.ext (.flat (.rw 72 [false,false,false] (wtT Y a b c)))),true⟩])
 |_,_=>none
set_option maxRecDepth 100000 in
theorem C_pwt_ok:CtrOk Try.prog Id' 35 C_pwt:=by
 intro us sub ps x sm h hp w e vs hM ha
 unfold C_pwt at h
 split at h
 ·rename_i a b c Y
  simp only [Option.some.injEq,Prod.mk.injEq] at h
  obtain ⟨rfl,rfl,rfl⟩:=h
  have hL:Y.length≤10000:=hp _ (List.mem_cons_self ..)
  cases h0:(decide (c<0)||decide (c≥8)) with
  |true=>exact ctr_way (I:=Id') (fun (W0:World) (G:Nat→Prop)=>SyOk.mk2 Try.mixed dkHo_ok (FnsR.cons (R_phs) (FnsR.nil)) (E_of_ok (by kernel_rfl) (E_of_ok (by kernel_rfl) (EqsOk.nil)))) rfl Try.func35 (by kernel_rfl) (fun W0 G=>LpsOk.nil _) (cs:=[true]) (by kernel_rfl) (pwt_w0 Y a b c h0 ((bad_eq c).trans h0)) w e vs hM ha
  |false=>
   cases h1:hsE Y a b c with
   |true=>exact ctr_way (I:=Id') (fun (W0:World) (G:Nat→Prop)=>SyOk.mk2 Try.mixed dkHo_ok (FnsR.cons (R_phs) (FnsR.nil)) (E_of_ok (by kernel_rfl) (E_of_ok (by kernel_rfl) (EqsOk.nil)))) rfl Try.func35 (by kernel_rfl) (fun W0 G=>LpsOk.nil _) (cs:=[false,true]) (by kernel_rfl) (pwt_w1 Y a b c h0 ((bad_eq c).trans h0) h1 hL) w e vs hM ha
   |false=>exact ctr_way (I:=Id') (fun (W0:World) (G:Nat→Prop)=>SyOk.mk2 Try.mixed dkHo_ok (FnsR.cons (R_phs) (FnsR.nil)) (E_of_ok (by kernel_rfl) (E_of_ok (by kernel_rfl) (EqsOk.nil)))) rfl Try.func35 (by kernel_rfl) (fun W0 G=>LpsOk.nil _) (cs:=[false,false]) (by kernel_rfl) (pwt_w2 Y a b c h0 ((bad_eq c).trans h0) h1 hL) w e vs hM ha
 ·cases h
theorem R_pwt:RowOk Try.prog Id' hardD 35 (ctrF Id' C_pwt hardD):=ctrF_ok Try.call35 C_pwt_ok
end Go.Proofs.Ytdenmoiaiemokaa
set_option linter.unusedVariables false
set_option linter.unusedSimpArgs false
namespace Go.Proofs.Ytdenmoiaiemokaa
open Go.RowKit
set_option maxHeartbeats 1000000 in
theorem cloneW_c (v:Value) (n:Nat) (xs:List Value) (w:World) (h:Rs w 3 v n xs) (h1:∀ u∈xs,u.oneCell'=true) (hl:n≤100000):
  Calls Try.prog 102 #[v] w fun e w'=>∃ v',e=.returned v'∧Ext w w'∧w'.ownsRow w.heap.size 72 3 v' n xs:=by
 have h0:=h
 obtain ⟨ao,cap,rfl,ca1,ca2,ca3,ca0,hca⟩:=h0.open
 clear h0 hca
 have H:=Lib.hid h;clear h
 have H1:=Lib.hid h1;clear h1
 cases ao with
 |none=>
  have hc:=ca3 rfl
  subst hc
  have hn:n=0:=by omega
  subst hn
  have hx:xs=[]:=List.eq_nil_of_length_eq_zero (by omega)
  subst hx
  clear ca0 ca1 ca2 ca3
  have hnil:∀ w,(binOp .eql 66 (.slice none 0 0) (.slice none 0 0)).run Try.prog w=.ok (.bool true) w:=fun w=>Lib.run_eql_slice_nil w 66 72 none 0 0 0 0 Try.underlying66
  go_enter Try.func102,Try.ntmps102
  go_wp2
  go_ret
  exact ⟨_,rfl,Ext.refl w,World.ownsRow_nil _ _ _ _⟩
 |some a=>
  clear ca3
  have etE:ElemT Try.prog 66 72 3 24:=ElemT.mk' Try.underlying66 (z:=.agg #[.int .i64 0,.int .i64 0,.int .i64 0]) (by kernel_rfl) (by kernel_rfl) (by decide)
  have HE:=Lib.hid etE;clear etE
  have hnil:∀ w,(binOp .eql 66 (.slice (some a) n cap) (.slice none 0 0)).run Try.prog w=.ok (.bool false) w:=fun w=>Lib.run_eql_slice_nil w 66 72 (some a) n cap 0 0 Try.underlying66
  go_enter Try.func102,Try.ntmps102
  go_wp2_with (first|(at_builtin;go_loud (refine wpList_app rfl (.tmp 5) (.tmp 6) 66 rfl HE.out w.heap.size rfl (owns_lit (n:=0) (size:=3) (cs:=#[]) rfl (Nat.le_refl _) (by decide)) rfl (by have:=H.out.ext ((Ext.refl w).alloc (.cells #[] 72));exact this) H1.out (by omega) (by omega) (by simp) ?_);intro v' w1 hown hgr _)|fail)
  rw [Nat.zero_add] at hown
  obtain ⟨ao,cap',rfl⟩:=owns_shape hown
  go_ret
  exact ⟨_,rfl,((Ext.refl w).alloc _).grown hgr (fun k hk=>by cases hk;exact Nat.le_refl _),by simpa using hown⟩
def C_clW:Ctr Td:=fun us sub=>match us,sub with
 |[.one (.obj 0)],[⟨.us (.ext (.vw [false,false,false] R)),false⟩]=>some ([R.length≤100000],.c (.one (.obj 1)),[⟨.us (.ext (.vw [false,false,false] R)),false⟩,⟨.us (.ext (.flat (.rw 72 [false,false,false] R))),true⟩])
 |_,_=>none
theorem C_clW_ok:CtrOk Try.prog Id' 102 C_clW:=by
 intro us sub ps x sm h hp w e vs hM ha
 unfold C_clW at h
 split at h
 ·rename_i R
  simp only [Option.some.injEq,Prod.mk.injEq] at h
  obtain ⟨rfl,rfl,rfl⟩:=h
  have hL:R.length≤100000:=hp _ (List.mem_cons_self ..)
  obtain ⟨u0,rfl,a0⟩:=allC1 ha
  have hE:e[0]? =some u0:=is_one a0
  obtain ⟨k0,hR⟩:=hM.holds 0 _ _ hE rfl
  refine (cloneW_c u0 R.length (R.map (rwV [false,false,false])).flatten w hR rows_ones hL).mono fun y w' ⟨v,g1,g2,g3⟩=>⟨v,e++[v],g1,Grows.push e v,?_,?_⟩
  ·show (e++[v])[1]? =some v
   have:=hM.len
   rw [List.getElem?_append_right (by rw [this];exact Nat.le_refl _),this];rfl
  ·refine hM.push g2 v ⟨.us (.ext (.flat (.rw 72 [false,false,false] R))),true⟩ ⟨fun r hr=>?_,w.heap.size,g2.size,by rw [FL.len];exact g3⟩ fun k hk=>?_
   ·obtain ⟨y,_,rfl⟩:=List.mem_map.1 hr
    exact rwV_len _ y
   ·exact owns_block g3 hk
 ·cases h
end Go.Proofs.Ytdenmoiaiemokaa
set_option linter.unusedVariables false
set_option linter.unusedSimpArgs false
namespace Go.Proofs.Ytdenmoiaiemokaa
open Go.RowKit
theorem RW_clW:RowOk Try.prog Id' hardD 102 (ctrF Id' (wkC C_clW) hardD):=ctrF_ok Try.call102 (wkC_ok C_clW_ok)
set_option maxRecDepth 100000 in
theorem pal_w0 (Y:List Rw) (h0:Y.length≤100000):∃ qs,wayO Id' ([⟨.bx [.obj 1],true⟩,⟨.us (.ext (.flat (.rw 72 [false,false,false] Y))),true⟩]:Mem Td).length [⟨.bx [.obj 1],true⟩,⟨.us (.ext (.flat (.rw 72 [false,false,false] Y))),true⟩,⟨.us (.ext (.flat (.rw 72 [false,false,false] Y))),true⟩] (.c (.one (.obj 2))) ((runFn (⟨Try.prog,[(102,ctrF Id' (wkC C_clW) hardD)],[],dkHo,Id'.one,60⟩:Sy Td) [] Try.f38 [.one (.ptr 0 0)] [⟨.bx [.obj 1],true⟩,⟨.us (.ext (.flat (.rw 72 [false,false,false] Y))),true⟩]).al [])=some qs∧∀ q∈qs,q:=
 ⟨[Y.length≤(100000:Nat),(Th.ext (Dk.flat (FL.rw 72 [false,false,false] Y)):Td)=Th.ext (Dk.flat (FL.rw 72 [false,false,false] Y)),(Th.ext (Dk.flat (FL.rw 72 [false,false,false] Y)):Td)=Th.ext (Dk.flat (FL.rw 72 [false,false,false] Y))],by kernel_rfl,(by refine mcons ?_ (mcons ?_ (mcons ?_ mnil))<;>first|rfl|exact h0|trivial)⟩
def C_pal:Ctr Td:=fun us sub=>match us,sub with
 |[.one (.ptr 0 0)],[⟨.bx [.obj 1],true⟩,⟨.us (.ext (.flat (.rw 72 [false,false,false] Y))),true⟩]=>some ([Y.length≤100000],.c (.one (.obj 2)),[⟨.bx [.obj 1],true⟩,⟨.us (.ext (.flat (.rw 72 [false,false,false] Y))),true⟩,⟨.us (.ext (.flat (.rw 72 [false,false,false] Y))),true⟩])
 |_,_=>none
set_option maxRecDepth 100000 in
theorem C_pal_ok:CtrOk Try.prog Id' 38 C_pal:=by
 intro us sub ps x sm h hp w e vs hM ha
 unfold C_pal at h
 split at h
 ·rename_i Y
  simp only [Option.some.injEq,Prod.mk.injEq] at h
  obtain ⟨rfl,rfl,rfl⟩:=h
  have h0:=hp _ ((List.mem_cons_self ..))
  exact ctr_way (I:=Id') (fun (W0:World) (G:Nat→Prop)=>SyOk.mk2 Try.mixed dkHo_ok (FnsR.cons (RW_clW) (FnsR.nil)) EqsOk.nil) rfl Try.func38 (by kernel_rfl) (fun W0 G=>LpsOk.nil _) (cs:=[]) (by kernel_rfl) (pal_w0 Y h0) w e vs hM ha
 ·cases h
theorem R_pal:RowOk Try.prog Id' hardD 38 (ctrF Id' C_pal hardD):=ctrF_ok Try.call38 C_pal_ok
end Go.Proofs.Ytdenmoiaiemokaa
set_option linter.unusedVariables false
set_option linter.unusedSimpArgs false
namespace Go.Proofs.Ytdenmoiaiemokaa
open Go.RowKit
set_option maxRecDepth 100000 in
theorem pne_n (Z:List ((Int×Int)×Int)) (a b:Int) (L:List Int) (X Xn:List Rw) (n nn:Int) (k:Nat) (f:Nat→Value) (h0:decide ((k:Int)<(L.length:Int))=true) (h1:IntKind.i64.wrap ((k:Int)+1)=((k+1:Nat):Int)) (h2:k<L.length) (h3:True) (h4:wtT X a b (L.getD k 0)=Xn) (h5:(bif wtE X a b (L.getD k 0)==0 then IntKind.i64.wrap (n+1) else n)=nn) (h6:X.length≤10000):∃ qs,alN Id' 6 [(11,.c (.one (.v (.int .i64 nn)))),(20,.c (.one (.v (.int .i64 ((k+1:Nat):Int)))))] [⟨.bx [.obj 6],true⟩,⟨.bx [.obj 3],true⟩,⟨.dead,true⟩,⟨.us (.ext (.mp Z)),true⟩,⟨.blk [.v (.int .i64 a),.v (.int .i64 b)],true⟩,⟨.us (.ins L),true⟩,⟨.us (.ext (.flat (.rw 72 [false,false,false] Xn))),true⟩] ((symC (⟨Try.prog,[(35,ctrF Id' C_pwt hardD)],[],dkHo,Id'.one,60⟩:Sy Td) [] 33 (hdC (loopsC (bodyOf Try.f40)) 0) ⟨[(11,.c (.one (.v (.int .i64 n)))),(20,.c (.one (.v (.int .i64 (k:Int)))))]++anyB' (writesC (hdC (loopsC (bodyOf Try.f40)) 0)) ([(0,.c (.one (.ptr 0 0))),(7,.c (.one (.ptr 4 0))),(18,.c (.one (.obj 5))),(19,.c (.one (.v (.int .i64 (L.length:Int)))))]++tabV f 33),[⟨.bx [.obj 6],true⟩,⟨.bx [.obj 3],true⟩,⟨.dead,true⟩,⟨.us (.ext (.mp Z)),true⟩,⟨.blk [.v (.int .i64 a),.v (.int .i64 b)],true⟩,⟨.us (.ins L),true⟩,⟨.us (.ext (.flat (.rw 72 [false,false,false] X))),true⟩],0⟩).al [true])=some qs∧∀ q∈qs,q:=
 ⟨[decide ((↑k:Int)<(↑L.length:Int))=true,(0:Int)≤(↑k:Int)∧(↑k:Int).toNat<L.length,X.length≤(10000:Nat),(Th.ext (Dk.mp Z):Td)=Th.ext (Dk.mp Z),Value.int IntKind.i64 a=Value.int IntKind.i64 a,Value.int IntKind.i64 b=Value.int IntKind.i64 b,(Th.ins L:Td)=Th.ins L,(Th.ext (Dk.flat (FL.rw 72 [false,false,false] (wtT X a b (L.getD (↑k:Int).toNat (0:Int))))):Td)=Th.ext (Dk.flat (FL.rw 72 [false,false,false] Xn)),Value.int IntKind.i64 (bif wtE X a b (L.getD (↑k:Int).toNat (0:Int))==(0:Int) then IntKind.i64.wrap (n+(1:Int)) else n)=Value.int IntKind.i64 nn,Value.int IntKind.i64 (IntKind.i64.wrap ((↑k:Int)+(1:Int)))=Value.int IntKind.i64 (↑(k+(1:Nat)):Int)],by kernel_rfl,(by refine mcons ?_ (mcons ?_ (mcons ?_ (mcons ?_ (mcons ?_ (mcons ?_ (mcons ?_ (mcons ?_ (mcons ?_ (mcons ?_ mnil)))))))))<;>first|rfl|exact h0|exact h1|exact h2|exact h3|exact h4|exact h5|exact h6|trivial|(exact congrArg (fun x=>(Th.ext (Dk.flat (FL.rw 72 [false,false,false] x)):Td)) h4)|(exact congrArg (Value.int .i64) h1)|(exact congrArg (Value.int .i64) h5)|(exact ⟨by omega,by show (k:Int).toNat<L.length;omega⟩))⟩
set_option maxRecDepth 100000 in
theorem pne_x (Z:List ((Int×Int)×Int)) (a b:Int) (L:List Int) (X Xn:List Rw) (n nn:Int) (k:Nat) (f:Nat→Value) (h0:decide ((k:Int)<(L.length:Int))=false):∃ qs,alX Id' 6 0 [(11,.c (.one (.v (.int .i64 n))))] [⟨.bx [.obj 6],true⟩,⟨.bx [.obj 3],true⟩,⟨.dead,true⟩,⟨.us (.ext (.mp Z)),true⟩,⟨.blk [.v (.int .i64 a),.v (.int .i64 b)],true⟩,⟨.us (.ins L),true⟩,⟨.us (.ext (.flat (.rw 72 [false,false,false] X))),true⟩] ((symC (⟨Try.prog,[(35,ctrF Id' C_pwt hardD)],[],dkHo,Id'.one,60⟩:Sy Td) [] 33 (hdC (loopsC (bodyOf Try.f40)) 0) ⟨[(11,.c (.one (.v (.int .i64 n)))),(20,.c (.one (.v (.int .i64 (k:Int)))))]++anyB' (writesC (hdC (loopsC (bodyOf Try.f40)) 0)) ([(0,.c (.one (.ptr 0 0))),(7,.c (.one (.ptr 4 0))),(18,.c (.one (.obj 5))),(19,.c (.one (.v (.int .i64 (L.length:Int)))))]++tabV f 33),[⟨.bx [.obj 6],true⟩,⟨.bx [.obj 3],true⟩,⟨.dead,true⟩,⟨.us (.ext (.mp Z)),true⟩,⟨.blk [.v (.int .i64 a),.v (.int .i64 b)],true⟩,⟨.us (.ins L),true⟩,⟨.us (.ext (.flat (.rw 72 [false,false,false] X))),true⟩],0⟩).al [false])=some qs∧∀ q∈qs,q:=
 ⟨[decide ((↑k:Int)<(↑L.length:Int))=false,(Th.ext (Dk.mp Z):Td)=Th.ext (Dk.mp Z),Value.int IntKind.i64 a=Value.int IntKind.i64 a,Value.int IntKind.i64 b=Value.int IntKind.i64 b,(Th.ins L:Td)=Th.ins L,(Th.ext (Dk.flat (FL.rw 72 [false,false,false] X)):Td)=Th.ext (Dk.flat (FL.rw 72 [false,false,false] X)),Value.int IntKind.i64 n=Value.int IntKind.i64 n],by kernel_rfl,(by refine mcons ?_ (mcons ?_ (mcons ?_ (mcons ?_ (mcons ?_ (mcons ?_ (mcons ?_ mnil))))))<;>first|rfl|exact h0|trivial|(exact congrArg (fun x=>(Th.ext (Dk.flat (FL.rw 72 [false,false,false] x)):Td)) h4)|(exact congrArg (Value.int .i64) h1)|(exact congrArg (Value.int .i64) h5)|(exact ⟨by omega,by show (k:Int).toNat<L.length;omega⟩))⟩
set_option maxRecDepth 100000 in
theorem pne_lp (Y:List Rw) (Z:List ((Int×Int)×Int)) (a b:Int) (L:List Int) (hY:Y.length≤9000) (hL:L.length≤8) {W0:World} {G:Nat→Prop} (S0:Sy Td) (hS0:S0.P=Try.prog):LoopSound S0 Id' W0 G 33 (hdC (loopsC (bodyOf Try.f40)) 0) (lpG Id' 33 (hdC (loopsC (bodyOf Try.f40)) 0) 6 [(11,.c (.one (.v (.int .i64 (neS Y a b L 0).2)))),(20,.c (.one (.v (.int .i64 ((0:Nat):Int)))))] [(0,.c (.one (.ptr 0 0))),(7,.c (.one (.ptr 4 0))),(18,.c (.one (.obj 5))),(19,.c (.one (.v (.int .i64 (L.length:Int)))))] [⟨.bx [.obj 6],true⟩,⟨.bx [.obj 3],true⟩,⟨.dead,true⟩,⟨.us (.ext (.mp Z)),true⟩,⟨.blk [.v (.int .i64 a),.v (.int .i64 b)],true⟩,⟨.us (.ins L),true⟩,⟨.us (.ext (.flat (.rw 72 [false,false,false] (neS Y a b L 0).1))),true⟩] (.leaf (.exit 0) [(11,.c (.one (.v (.int .i64 (neS Y a b L L.length).2))))] [⟨.bx [.obj 6],true⟩,⟨.bx [.obj 3],true⟩,⟨.dead,true⟩,⟨.us (.ext (.mp Z)),true⟩,⟨.blk [.v (.int .i64 a),.v (.int .i64 b)],true⟩,⟨.us (.ins L),true⟩,⟨.us (.ext (.flat (.rw 72 [false,false,false] (neS Y a b L L.length).1))),true⟩])):=by
 refine lp_sound (V:=fun k=>[(11,.c (.one (.v (.int .i64 (neS Y a b L k).2)))),(20,.c (.one (.v (.int .i64 ((k:Nat):Int)))))]) (M:=(fun k=>[⟨.bx [.obj 6],true⟩,⟨.bx [.obj 3],true⟩,⟨.dead,true⟩,⟨.us (.ext (.mp Z)),true⟩,⟨.blk [.v (.int .i64 a),.v (.int .i64 b)],true⟩,⟨.us (.ins L),true⟩,⟨.us (.ext (.flat (.rw 72 [false,false,false] (neS Y a b L k).1))),true⟩]:Nat→Mem Td)) (N:=L.length) (Ux:=fun k x=>match x with|.exit 0=>some ([(11,.c (.one (.v (.int .i64 (neS Y a b L L.length).2))))],([⟨.bx [.obj 6],true⟩,⟨.bx [.obj 3],true⟩,⟨.dead,true⟩,⟨.us (.ext (.mp Z)),true⟩,⟨.blk [.v (.int .i64 a),.v (.int .i64 b)],true⟩,⟨.us (.ins L),true⟩,⟨.us (.ext (.flat (.rw 72 [false,false,false] (neS Y a b L L.length).1))),true⟩]:Mem Td))|_=>none) (X:=fun _ _=>True) (J:=fun k=>k≤L.length) (fun k=>by kernel_rfl) (Nat.zero_le _) (fun k hk hJ f=>?_) (fun K hK k x U hk hU hX=>?_)
 ·rw [hS0]
  obtain ⟨hl1,hl2,hl3⟩:=neS_len Y a b L k
  cases hT:decide ((k:Int)<(L.length:Int)) with
  |false=>
   have hke:k=L.length:=by have:=of_decide_eq_false hT;omega
   subst hke
   exact rnd_xD (⟨Try.prog,[(35,ctrF Id' C_pwt hardD)],[],dkHo,Id'.one,60⟩:Sy Td) rfl ((fun (W0:World) (G:Nat→Prop)=>SyOk.mk2 Try.mixed dkHo_ok (FnsR.cons (R_pwt) (FnsR.nil)) EqsOk.nil) W0 G) (pne_x Z a b L _ [] _ 0 _ f hT) rfl trivial
  |true=>
   have hk1:k<L.length:=by have:=of_decide_eq_true hT;omega
   have hW:IntKind.i64.wrap ((k:Int)+1)=((k+1:Nat):Int):=by rw [IntWalk.i64_in _ (by omega)];omega
   have hs:(bif wtE (neS Y a b L k).1 a b (L.getD k 0)==0 then IntKind.i64.wrap ((neS Y a b L k).2+1) else (neS Y a b L k).2)=(neS Y a b L (k+1)).2:=by
    show _=(bif _ then _ else _)
    rw [IntWalk.i64_in _ (by omega)]
   exact rnd_nD (⟨Try.prog,[(35,ctrF Id' C_pwt hardD)],[],dkHo,Id'.one,60⟩:Sy Td) rfl ((fun (W0:World) (G:Nat→Prop)=>SyOk.mk2 Try.mixed dkHo_ok (FnsR.cons (R_pwt) (FnsR.nil)) EqsOk.nil) W0 G) (pne_n Z a b L (neS Y a b L k).1 (neS Y a b L (k+1)).1 (neS Y a b L k).2 (neS Y a b L (k+1)).2 k f hT hW hk1 trivial rfl hs (by omega)) rfl rfl (by omega) (by omega)
 ·revert hU
  match x with
  |.exit 0=>intro hU;simp only [Option.some.injEq] at hU;subst hU;exact hK
  |.normal=>intro hU;cases hU
  |.ret=>intro hU;cases hU
  |.exit (n+1)=>intro hU;cases hU
def pnE (Y:List Rw) (Z:List ((Int×Int)×Int)) (a b cl md:Int):List Rw×Int:=neS Y a b (othE Z a b cl md) (othE Z a b cl md).length
set_option maxRecDepth 100000 in
theorem pne_w0 (Y:List Rw) (Z:List ((Int×Int)×Int)) (a b cl md:Int) (h0:Y.length≤9000):∃ qs,wayO Id' ([⟨.bx [.obj 2],true⟩,⟨.bx [.obj 3],true⟩,⟨.us (.ext (.flat (.rw 72 [false,false,false] Y))),true⟩,⟨.us (.ext (.mp Z)),true⟩]:Mem Td).length [⟨.bx [.obj 4],true⟩,⟨.bx [.obj 3],true⟩,⟨.dead,true⟩,⟨.us (.ext (.mp Z)),true⟩,⟨.us (.ext (.flat (.rw 72 [false,false,false] (pnE Y Z a b cl md).1))),true⟩] (.c (.one (.v (.int .i64 (pnE Y Z a b cl md).2)))) ((runFn (⟨Try.prog,[(35,ctrF Id' C_pwt hardD),(39,ctrF Id' C_oth hardD)],[],dkHo,Id'.one,60⟩:Sy Td) [(3,(lpG Id' 33 (hdC (loopsC (bodyOf Try.f40)) 0) 6 [(11,.c (.one (.v (.int .i64 (neS Y a b (othE Z a b cl md) 0).2)))),(20,.c (.one (.v (.int .i64 ((0:Nat):Int)))))] [(0,.c (.one (.ptr 0 0))),(7,.c (.one (.ptr 4 0))),(18,.c (.one (.obj 5))),(19,.c (.one (.v (.int .i64 ((othE Z a b cl md).length:Int)))))] [⟨.bx [.obj 6],true⟩,⟨.bx [.obj 3],true⟩,⟨.dead,true⟩,⟨.us (.ext (.mp Z)),true⟩,⟨.blk [.v (.int .i64 a),.v (.int .i64 b)],true⟩,⟨.us (.ins (othE Z a b cl md)),true⟩,⟨.us (.ext (.flat (.rw 72 [false,false,false] (neS Y a b (othE Z a b cl md) 0).1))),true⟩] (.leaf (.exit 0) [(11,.c (.one (.v (.int .i64 (neS Y a b (othE Z a b cl md) (othE Z a b cl md).length).2))))] [⟨.bx [.obj 6],true⟩,⟨.bx [.obj 3],true⟩,⟨.dead,true⟩,⟨.us (.ext (.mp Z)),true⟩,⟨.blk [.v (.int .i64 a),.v (.int .i64 b)],true⟩,⟨.us (.ins (othE Z a b cl md)),true⟩,⟨.us (.ext (.flat (.rw 72 [false,false,false] (neS Y a b (othE Z a b cl md) (othE Z a b cl md).length).1))),true⟩])))] Try.f40 [.one (.ptr 0 0),.one (.ptr 1 0),.agg [.v (.int .i64 a),.v (.int .i64 b)],.one (.v (.int .i64 cl)),.one (.v (.int .i64 md))] [⟨.bx [.obj 2],true⟩,⟨.bx [.obj 3],true⟩,⟨.us (.ext (.flat (.rw 72 [false,false,false] Y))),true⟩,⟨.us (.ext (.mp Z)),true⟩]).al [])=some qs∧∀ q∈qs,q:=
 ⟨[Value.int IntKind.i64 (↑(othE Z a b cl md).length:Int)=Value.int IntKind.i64 (↑(othE Z a b cl md).length:Int),(Th.ext (Dk.mp Z):Td)=Th.ext (Dk.mp Z),Value.int IntKind.i64 a=Value.int IntKind.i64 a,Value.int IntKind.i64 b=Value.int IntKind.i64 b,(Th.ins (Nat.brecOn.go (holS Z a b (8:Nat)).length (othS._f Z a b cl md (holS Z a b (8:Nat)))).1:Td)=Th.ins (Nat.brecOn.go (holS Z a b (8:Nat)).length (othS._f Z a b cl md (holS Z a b (8:Nat)))).1,(Th.ext (Dk.flat (FL.rw 72 [false,false,false] Y)):Td)=Th.ext (Dk.flat (FL.rw 72 [false,false,false] Y)),Value.int IntKind.i64 (Int.ofNat 0)=Value.int IntKind.i64 (neS Y a b (othE Z a b cl md) (0:Nat)).snd,Value.int IntKind.i64 (Int.ofNat 0)=Value.int IntKind.i64 (Int.ofNat (0:Nat)),(Th.ext (Dk.mp Z):Td)=Th.ext (Dk.mp Z),(Th.ext (Dk.flat (FL.rw 72 [false,false,false] (neS Y a b (othE Z a b cl md) (othE Z a b cl md).length).1)):Td)=Th.ext (Dk.flat (FL.rw 72 [false,false,false] (pnE Y Z a b cl md).1)),Value.int IntKind.i64 (neS Y a b (othE Z a b cl md) (othE Z a b cl md).length).snd=Value.int IntKind.i64 (pnE Y Z a b cl md).snd],by kernel_rfl,(by refine mcons ?_ (mcons ?_ (mcons ?_ (mcons ?_ (mcons ?_ (mcons ?_ (mcons ?_ (mcons ?_ (mcons ?_ (mcons ?_ (mcons ?_ mnil))))))))))<;>first|rfl|exact h0|trivial)⟩
def C_pne:Ctr Td:=fun us sub=>match us,sub with
 |[.one (.ptr 0 0),.one (.ptr 1 0),.agg [.v (.int .i64 a),.v (.int .i64 b)],.one (.v (.int .i64 cl)),.one (.v (.int .i64 md))],[⟨.bx [.obj 2],true⟩,⟨.bx [.obj 3],true⟩,⟨.us (.ext (.flat (.rw 72 [false,false,false] Y))),true⟩,⟨.us (.ext (.mp Z)),true⟩]=>some ([Y.length≤9000],.c (.one (.v (.int .i64 (pnE Y Z a b cl md).2))),[⟨.bx [.obj 4],true⟩,⟨.bx [.obj 3],true⟩,⟨.dead,true⟩,⟨.us (.ext (.mp Z)),true⟩,⟨.us (.ext (.flat (.rw 72 [false,false,false] (pnE Y Z a b cl md).1))),true⟩])
 |_,_=>none
set_option maxRecDepth 100000 in
theorem C_pne_ok:CtrOk Try.prog Id' 40 C_pne:=by
 intro us sub ps x sm h hp w e vs hM ha
 unfold C_pne at h
 split at h
 ·rename_i a b cl md Y Z
  simp only [Option.some.injEq,Prod.mk.injEq] at h
  obtain ⟨rfl,rfl,rfl⟩:=h
  have h0:=hp _ ((List.mem_cons_self ..))
  exact ctr_way (I:=Id') (fun (W0:World) (G:Nat→Prop)=>SyOk.mk2 Try.mixed dkHo_ok (FnsR.cons (R_pwt) (FnsR.cons (R_oth) (FnsR.nil))) EqsOk.nil) rfl Try.func40 (by kernel_rfl) (fun W0 G=>LpsOk.cons (by kernel_rfl) (pne_lp Y Z a b (othE Z a b cl md) h0 (othS_len2 Z a b cl md) _ rfl) (LpsOk.nil _)) (cs:=[]) (by kernel_rfl) (pne_w0 Y Z a b cl md h0) w e vs hM ha
 ·cases h
theorem R_pne:RowOk Try.prog Id' hardD 40 (ctrF Id' C_pne hardD):=ctrF_ok Try.call40 C_pne_ok
end Go.Proofs.Ytdenmoiaiemokaa
set_option linter.unusedVariables false
set_option linter.unusedSimpArgs false
namespace Go.Proofs.Ytdenmoiaiemokaa
open Go.RowKit
set_option maxRecDepth 100000 in
theorem pnew_w0  :∃ qs,wayO Id' ([]:Mem Td).length [⟨.bx [.obj 1],true⟩,⟨.us (.ext (.flat (.rw 72 [false,false,false] []))),true⟩] (.c (.one (.ptr 0 0))) ((runFn (⟨Try.prog,[],[],dkHo,Id'.one,60⟩:Sy Td) [] Try.f33 [] []).al [])=some qs∧∀ q∈qs,q:=
 ⟨[∀ (w:World),Id'.holds (Th.ext (Dk.flat (FL.rw 72 [false,false,false] []))) w nilV∧∀ (j:Nat),¬Id'.foot (Th.ext (Dk.flat (FL.rw 72 [false,false,false] []))) w nilV j],by kernel_rfl,(by refine mcons ?_ mnil<;>first|rfl|trivial|(exact nil_rw3 rfl))⟩
def C_pnew:Ctr Td:=fun us sub=>match us,sub with
 |[],[]=>some ([],.c (.one (.ptr 0 0)),[⟨.bx [.obj 1],true⟩,⟨.us (.ext (.flat (.rw 72 [false,false,false] []))),true⟩])
 |_,_=>none
set_option maxRecDepth 100000 in
theorem C_pnew_ok:CtrOk Try.prog Id' 33 C_pnew:=by
 intro us sub ps x sm h hp w e vs hM ha
 unfold C_pnew at h
 split at h
 ·skip
  simp only [Option.some.injEq,Prod.mk.injEq] at h
  obtain ⟨rfl,rfl,rfl⟩:=h
  exact ctr_way (I:=Id') (fun (W0:World) (G:Nat→Prop)=>SyOk.mk2 Try.mixed dkHo_ok (FnsR.nil) EqsOk.nil) rfl Try.func33 (by kernel_rfl) (fun W0 G=>LpsOk.nil _) (cs:=[]) (by kernel_rfl) (pnew_w0  ) w e vs hM ha
 ·cases h
theorem R_pnew:RowOk Try.prog Id' hardD 33 (ctrF Id' C_pnew hardD):=ctrF_ok Try.call33 C_pnew_ok
end Go.Proofs.Ytdenmoiaiemokaa
set_option linter.unusedVariables false
set_option linter.unusedSimpArgs false
namespace Go.Proofs.Ytdenmoiaiemokaa
open Go.RowKit
theorem lv22_len:(pnE [] (grT [] 2 1 1 1) 2 1 2 2).1.length≤100000:=by decide +kernel
set_option maxRecDepth 100000 in
theorem lv22_w0  :∃ qs,wayO Id' ([]:Mem Td).length [] (svV (.bool true)) ((runFn (⟨Try.prog,[(33,ctrF Id' C_pnew hardD),(34,ctrF Id' C_tnew hardD),(36,ctrF Id' C_tgr hardD),(40,ctrF Id' C_pne hardD),(42,ctrV C_phs hardD),(38,ctrF Id' C_pal hardD)],[E_of Try.prog 57,E_of Try.prog 72],dkHo,Id'.one,60⟩:Sy Td) [] Try.f44 [] []).al [true,true])=some qs∧∀ q∈qs,q:=
 ⟨[true=true,true=true,(pnE [] (grT [] (2:Int) (1:Int) (1:Int) (1:Int)) (2:Int) (1:Int) (2:Int) (2:Int)).fst.length≤(100000:Nat),true=true,true=true→(pnE [] (grT [] (2:Int) (1:Int) (1:Int) (1:Int)) (2:Int) (1:Int) (2:Int) (2:Int)).fst.length≤(100000:Nat),([]:List Rw).length≤(9000:Nat),true=true,Value.bool true=Value.bool true],by kernel_rfl,(by refine mcons ?_ (mcons ?_ (mcons ?_ (mcons ?_ (mcons ?_ (mcons ?_ (mcons ?_ (mcons ?_ mnil)))))))<;>first|rfl|trivial|(exact lv22_len)|(exact fun _=>lv22_len)|decide|(decide +kernel))⟩
def C_lv22:Ctr Td:=fun us sub=>match us,sub with
 |[],[]=>some ([],svV (.bool true),[])
 |_,_=>none
set_option maxRecDepth 100000 in
theorem C_lv22_ok:CtrOk Try.prog Id' 44 C_lv22:=by
 intro us sub ps x sm h hp w e vs hM ha
 unfold C_lv22 at h
 split at h
 ·skip
  simp only [Option.some.injEq,Prod.mk.injEq] at h
  obtain ⟨rfl,rfl,rfl⟩:=h
  exact ctr_way (I:=Id') (fun (W0:World) (G:Nat→Prop)=>SyOk.mk2 Try.mixed dkHo_ok (FnsR.cons (R_pnew) (FnsR.cons (R_tnew) (FnsR.cons (R_tgr) (FnsR.cons (R_pne) (FnsR.cons (R_phs) (FnsR.cons (R_pal) (FnsR.nil))))))) (E_of_ok (by kernel_rfl) (E_of_ok (by kernel_rfl) (EqsOk.nil)))) rfl Try.func44 (by kernel_rfl) (fun W0 G=>LpsOk.nil _) (cs:=[true,true]) (by kernel_rfl) (lv22_w0  ) w e vs hM ha
 ·cases h
theorem R_lv22:RowOk Try.prog Id' hardD 44 (ctrF Id' C_lv22 hardD):=ctrF_ok Try.call44 C_lv22_ok
end Go.Proofs.Ytdenmoiaiemokaa
set_option linter.unusedVariables false
set_option linter.unusedSimpArgs false
namespace Go.Proofs.Ytdenmoiaiemokaa
open Go.RowKit
def putW (s:WS) (nm:ByteArray) (a b c:Int):WS:=putN ((((s.put (IntKind.u64.wrap (nm.size:Int)) 5).put (IntKind.u64.wrap a) 6).put (IntKind.u64.wrap b) 31).put (IntKind.u64.wrap c) 2) nm 16
end Go.Proofs.Ytdenmoiaiemokaa
set_option linter.unusedVariables false
set_option linter.unusedSimpArgs false
namespace Go.Proofs.Ytdenmoiaiemokaa
open Go.RowKit
def putR (s:WS) (r:Rw):WS:=putW s (r.ss.getD 0 ⟨#[]⟩) (r.is.getD 0 0) (r.is.getD 1 0) (r.is.getD 2 0)
def putsW (s:WS) (Y:List Rw):Nat→WS
 |0=>s
 |k+1=>putR (putsW s Y k) (Y.getD k Rw.zero)
end Go.Proofs.Ytdenmoiaiemokaa
set_option linter.unusedVariables false
set_option linter.unusedSimpArgs false
namespace Go.Proofs.Ytdenmoiaiemokaa
open Go.RowKit
def blkP (Y:List Rw):List UInt8:=(putsW .new Y Y.length).out++List.replicate (IntKind.i64.wrap ((128:Int) - ((putsW .new Y Y.length).out.length:Int))).toNat 0
end Go.Proofs.Ytdenmoiaiemokaa
set_option linter.unusedVariables false
namespace Go.Proofs.Ytdenmoiaiemokaa
open Go.RowKit
theorem wput_len (s:WS) (x n:Int):(s.put x n).bl.length≤s.bl.length+n.toNat:=by
 simp only [WS.put,putL]
 split
 ·rw [List.length_append,bitsOf_length];exact Nat.le_refl _
 ·omega
theorem putN_len (s:WS) (nm:ByteArray):∀ k,(putN s nm k).bl.length≤s.bl.length+8 * k
 |0=>Nat.le_refl _
 |k+1=>by
  have:=putN_len s nm k
  have h:=wput_len (putN s nm k) (chI nm (k:Int)) 8
  show ((putN s nm k).put (chI nm (k:Int)) 8).bl.length≤_
  have:(8:Int).toNat=8:=rfl
  omega
theorem putW_len (s:WS) (nm:ByteArray) (a b c:Int):(putW s nm a b c).bl.length≤s.bl.length+172:=by
 unfold putW
 have h0:=putN_len ((((s.put (IntKind.u64.wrap (nm.size:Int)) 5).put (IntKind.u64.wrap a) 6).put (IntKind.u64.wrap b) 31).put (IntKind.u64.wrap c) 2) nm 16
 have h1:=wput_len s (IntKind.u64.wrap (nm.size:Int)) 5
 have h2:=wput_len (s.put (IntKind.u64.wrap (nm.size:Int)) 5) (IntKind.u64.wrap a) 6
 have h3:=wput_len ((s.put (IntKind.u64.wrap (nm.size:Int)) 5).put (IntKind.u64.wrap a) 6) (IntKind.u64.wrap b) 31
 have h4:=wput_len (((s.put (IntKind.u64.wrap (nm.size:Int)) 5).put (IntKind.u64.wrap a) 6).put (IntKind.u64.wrap b) 31) (IntKind.u64.wrap c) 2
 have e5:(5:Int).toNat=5:=rfl
 have e6:(6:Int).toNat=6:=rfl
 have e31:(31:Int).toNat=31:=rfl
 have e2:(2:Int).toNat=2:=rfl
 omega
theorem putsW_len (s:WS) (Y:List Rw):∀ k,(putsW s Y k).bl.length≤s.bl.length+172 * k
 |0=>Nat.le_refl _
 |k+1=>by
  have:=putsW_len s Y k
  have h:=putW_len (putsW s Y k) ((Y.getD k Rw.zero).ss.getD 0 ⟨#[]⟩) ((Y.getD k Rw.zero).is.getD 0 0) ((Y.getD k Rw.zero).is.getD 1 0) ((Y.getD k Rw.zero).is.getD 2 0)
  show (putR (putsW s Y k) (Y.getD k Rw.zero)).bl.length≤_
  unfold putR
  omega
theorem out_len (Y:List Rw) (h:Y.length≤5):(putsW .new Y Y.length).out.length≤128:=by
 have:=putsW_len .new Y Y.length
 have h0:(WS.new).bl.length=0:=rfl
 unfold WS.out
 split
 ·rw [packed_length];omega
 ·exact Nat.zero_le _
theorem w128 {Y:List Rw} (h:Y.length≤5):IntKind.i64.wrap ((128:Int) - ((putsW WS.new Y Y.length).out.length:Int))=(128:Int) - ((putsW WS.new Y Y.length).out.length:Int):=by
 have:=out_len Y h
 exact IntWalk.i64_in _ (by omega)
def blksP (R:List Rw):Nat→List (List UInt8)
 |0=>[]
 |k+1=>blksP R k++[blkP ((R.drop (5 * k)).take 5)]
def nbR (R:List Rw):Nat:=(R.length+4) / 5
theorem blksP_len (R:List Rw):∀ k,(blksP R k).length=k
 |0=>rfl
 |k+1=>by simp [blksP,blksP_len R k]
end Go.Proofs.Ytdenmoiaiemokaa
set_option linter.unusedVariables false
set_option linter.unusedSimpArgs false
namespace Go.Proofs.Ytdenmoiaiemokaa
open Go.RowKit
end Go.Proofs.Ytdenmoiaiemokaa
set_option linter.unusedVariables false
set_option linter.unusedSimpArgs false
namespace Go.Proofs.Ytdenmoiaiemokaa
open Go.RowKit
def okP (R:List Rw):Bool:=allI 1 R.length (riseI R)&&allI 0 R.length (isI R)
def dbE (R:List Rw):Int:=bif okP R then (bif decide ((R.length:Int)>24) then 8 else 0) else 2
def dbB (R:List Rw):List (List UInt8):=bif okP R&&!decide ((R.length:Int)>24) then blksP R (nbR R) else []
end Go.Proofs.Ytdenmoiaiemokaa
set_option linter.unusedVariables false
set_option linter.unusedSimpArgs false
namespace Go.Proofs.Ytdenmoiaiemokaa
open Go.RowKit
def nmB (l:List Bool) (nm:ByteArray):Nat→List Bool
 |0=>l
 |k+1=>nmB l nm k++bitsOf (IntKind.u64.wrap (chI nm (k:Int))).toNat 8
theorem nmB_len (l:List Bool) (nm:ByteArray):∀ k,(nmB l nm k).length=l.length+8 * k
 |0=>rfl
 |k+1=>by simp only [nmB,List.length_append,bitsOf_length,nmB_len l nm k];omega
end Go.Proofs.Ytdenmoiaiemokaa
set_option linter.unusedVariables false
set_option linter.unusedSimpArgs false
namespace Go.Proofs.Ytdenmoiaiemokaa
open Go.RowKit
def entB (l:List Bool) (r:Rw):List Bool:=nmB (l++bitsOf (IntKind.u64.wrap ((r.ss.getD 0 ⟨#[]⟩).size:Int)).toNat 5++bitsOf (IntKind.u64.wrap (r.is.getD 0 0)).toNat 6++bitsOf (IntKind.u64.wrap (r.is.getD 1 0)).toNat 31++bitsOf (IntKind.u64.wrap (r.is.getD 2 0)).toNat 2) (r.ss.getD 0 ⟨#[]⟩) 16
def entsB (R:List Rw):Nat→List Bool
 |0=>[]
 |k+1=>entB (entsB R k) (R.getD k Rw.zero)
theorem entB_len (l:List Bool) (r:Rw):(entB l r).length=l.length+172:=by
 unfold entB
 rw [nmB_len]
 simp only [List.length_append,bitsOf_length]
theorem entsB_len (R:List Rw):∀ k,(entsB R k).length=172 * k
 |0=>rfl
 |k+1=>by show (entB (entsB R k) _).length=_;rw [entB_len,entsB_len R k];omega
end Go.Proofs.Ytdenmoiaiemokaa
set_option linter.unusedVariables false
set_option linter.unusedSimpArgs false
namespace Go.Proofs.Ytdenmoiaiemokaa
open Go.RowKit
def padL (x:List UInt8) (k:Nat):List UInt8:=x++List.replicate k 0
end Go.Proofs.Ytdenmoiaiemokaa
set_option linter.unusedVariables false
set_option linter.unusedSimpArgs false
namespace Go.Proofs.Ytdenmoiaiemokaa
open Go.RowKit
def blkD (R:List Rw):List UInt8:=padL (packed (entsB R R.length)) (128 - (packed (entsB R R.length)).length)
end Go.Proofs.Ytdenmoiaiemokaa
set_option linter.unusedVariables false
set_option linter.unusedSimpArgs false
namespace Go.Proofs.Ytdenmoiaiemokaa
open Go.RowKit
def blksD (R:List Rw):Nat→List (List UInt8)
 |0=>[]
 |k+1=>blksD R k++[blkD ((R.drop (5 * k)).take 5)]
end Go.Proofs.Ytdenmoiaiemokaa
set_option linter.unusedVariables false
set_option linter.unusedSimpArgs false
namespace Go.Proofs.Ytdenmoiaiemokaa
open Go.RowKit
def rbB (R:List Rw):List (List UInt8):=bif allI 0 R.length (riseD R)&&!decide ((R.length:Int)>24) then blksD R (nbR R) else []
end Go.Proofs.Ytdenmoiaiemokaa
set_option linter.unusedVariables false
namespace Go.Proofs.Ytdenmoiaiemokaa
open Go.RowKit
theorem less_tri:∀ a b:List UInt8,(!Op.bytesLess a b)=(Op.bytesLess b a||b==a)
 |[],[]=>rfl
 |[],y::ys=>rfl
 |x::xs,[]=>rfl
 |x::xs,y::ys=>by
  have ih:=less_tri xs ys
  simp only [Op.bytesLess]
  by_cases h1:x<y
  ·simp [h1,UInt8.lt_asymm h1,UInt8.ne_of_lt h1,(UInt8.ne_of_lt h1).symm]
  ·by_cases h2:y<x
   ·simp [h1,h2,UInt8.ne_of_lt h2,(UInt8.ne_of_lt h2).symm]
   ·have:x=y:=UInt8.le_antisymm (UInt8.not_lt.1 h2) (UInt8.not_lt.1 h1)
    subst this
    simp [h1,ih]
theorem allI_iff {o n:Nat} {p:Int→Bool}:allI o n p=true↔∀ i:Int,(o:Int)≤i→i.toNat<n→p i=true:=by
 rcases allI_cases o n p with ⟨h,g⟩|⟨h,i,g1,g2,g3⟩
 ·exact ⟨fun _=>g,fun _=>h⟩
 ·refine ⟨fun e=>(by rw [h] at e;cases e),fun e=>?_⟩
  rw [e i g1 g2] at g3;cases g3
theorem riseD_is (R:List Rw) (i:Int):riseD R i=(isI R i&&(!decide (i>0)||riseI R i)):=by
 unfold riseD riseI
 rw [← less_tri]
 cases isI R i<;>cases decide (i>0)<;>simp
theorem okP_is (R:List Rw):okP R=allI 0 R.length (riseD R):=by
 rw [Bool.eq_iff_iff]
 unfold okP
 rw [Bool.and_eq_true,allI_iff,allI_iff,allI_iff]
 constructor
 ·rintro ⟨h1,h2⟩ i h0 hn
  rw [riseD_is,h2 i h0 hn,Bool.true_and]
  by_cases h:i>0
  ·rw [h1 i (by omega) hn];simp
  ·rw [decide_eq_false h];rfl
 ·intro h
  refine ⟨fun i h0 hn=>?_,fun i h0 hn=>?_⟩
  ·have:=h i (by omega) hn
   rw [riseD_is,Bool.and_eq_true,decide_eq_true (show i>0 by omega)] at this
   simpa using this.2
  ·have:=h i h0 hn
   rw [riseD_is,Bool.and_eq_true] at this
   exact this.1
end Go.Proofs.Ytdenmoiaiemokaa
set_option linter.unusedVariables false
namespace Go.Proofs.Ytdenmoiaiemokaa
open Go.RowKit
theorem put_fit {s:WS} {x n:Int} (he:s.err=0) (hf:fitsN x.toNat n):(s.put x n).bl=s.bl++bitsOf x.toNat n.toNat∧(s.put x n).err=0:=by
 simp only [WS.put,putL,putE]
 rw [if_pos ⟨he,hf⟩,if_neg (fun h=>h.2 hf)]
 exact ⟨rfl,he⟩
theorem chI_in (nm:ByteArray) (i:Int):0≤chI nm i∧chI nm i<256:=by
 unfold chI
 cases decide (i<(nm.size:Int)) with
 |true=>have:=(nm.data.toList.getD i.toNat 0).toNat_lt;simp only [cond_true];omega
 |false=>simp
theorem putN_fit {s:WS} (nm:ByteArray) (he:s.err=0):∀ k,(putN s nm k).bl=nmB s.bl nm k∧(putN s nm k).err=0
 |0=>⟨rfl,he⟩
 |k+1=>by
  obtain ⟨h1,h2⟩:=putN_fit nm he k
  have hc:=chI_in nm (k:Int)
  have h:=put_fit (x:=chI nm (k:Int)) (n:=8) h2 ⟨by decide,by decide,by show _<256;omega⟩
  refine ⟨?_,h.2⟩
  show ((putN s nm k).put (chI nm (k:Int)) 8).bl=nmB s.bl nm k++bitsOf (IntKind.u64.wrap (chI nm (k:Int))).toNat 8
  rw [h.1,h1,u64w_id (by omega)];rfl
theorem isE_in {nm:ByteArray} {a b c:Int} (h:isE nm a b c=true):nm.size<17∧(0<a∧a<41)∧(0≤b∧b<2147483648)∧(0<c∧c<3):=by
 unfold isE nameB at h
 simp only [Bool.and_eq_true,decide_eq_true_eq] at h
 omega
theorem putR_fit {s:WS} {r:Rw} (he:s.err=0) (h:isR r=true):(putR s r).bl=entB s.bl r∧(putR s r).err=0:=by
 obtain ⟨hn,ha,hb,hc⟩:=isE_in h
 have w1:=u64w_id (n:=((r.ss.getD 0 ⟨#[]⟩).size:Int)) (by omega)
 have w2:=u64w_id (n:=r.is.getD 0 0) (by omega)
 have w3:=u64w_id (n:=r.is.getD 1 0) (by omega)
 have w4:=u64w_id (n:=r.is.getD 2 0) (by omega)
 have p1:=put_fit (s:=s) (x:=IntKind.u64.wrap ((r.ss.getD 0 ⟨#[]⟩).size:Int)) (n:=5) he ⟨by decide,by decide,by rw [w1];show _<32;omega⟩
 have p2:=put_fit (x:=IntKind.u64.wrap (r.is.getD 0 0)) (n:=6) p1.2 ⟨by decide,by decide,by rw [w2];show _<64;omega⟩
 have p3:=put_fit (x:=IntKind.u64.wrap (r.is.getD 1 0)) (n:=31) p2.2 ⟨by decide,by decide,by rw [w3];show _<2147483648;omega⟩
 have p4:=put_fit (x:=IntKind.u64.wrap (r.is.getD 2 0)) (n:=2) p3.2 ⟨by decide,by decide,by rw [w4];show _<4;omega⟩
 have p5:=putN_fit (r.ss.getD 0 ⟨#[]⟩) p4.2 16
 refine ⟨?_,p5.2⟩
 show (putN _ _ 16).bl=_
 rw [p5.1,p4.1,p3.1,p2.1,p1.1];rfl
theorem putsW_fit {Y:List Rw} (h:∀ r∈Y,isR r=true):∀ k,k≤Y.length→(putsW .new Y k).bl=entsB Y k∧(putsW .new Y k).err=0
 |0,_=>⟨rfl,rfl⟩
 |k+1,hk=>by
  obtain ⟨h1,h2⟩:=putsW_fit h k (by omega)
  have hr:isR (Y.getD k Rw.zero)=true:=by
   rw [List.getD_eq_getElem?_getD,List.getElem?_eq_getElem (show k<Y.length by omega)]
   exact h _ (List.getElem_mem _)
  have p:=putR_fit (r:=Y.getD k Rw.zero) h2 hr
  refine ⟨?_,p.2⟩
  show (putR (putsW .new Y k) (Y.getD k Rw.zero)).bl=entB (entsB Y k) (Y.getD k Rw.zero)
  rw [p.1,h1]
theorem blk_is {Y:List Rw} (h:∀ r∈Y,isR r=true) (hl:Y.length≤5):blkP Y=blkD Y:=by
 obtain ⟨h1,h2⟩:=putsW_fit h Y.length (Nat.le_refl _)
 have ho:(putsW .new Y Y.length).out=packed (entsB Y Y.length):=by unfold WS.out;rw [if_pos h2,h1]
 have hn:=out_len Y hl
 unfold blkP blkD padL
 rw [w128 hl,ho]
 rw [ho] at hn
 congr 2
 omega
theorem blks_is {R:List Rw} (h:∀ r∈R,isR r=true):∀ k,blksP R k=blksD R k
 |0=>rfl
 |k+1=>by
  show blksP R k++_=blksD R k++_
  rw [blks_is h k,blk_is (fun r hr=>h r (List.mem_of_mem_drop (List.mem_of_mem_take hr))) (List.length_take_le ..)]
theorem dbB_is (R:List Rw):dbB R=rbB R:=by
 unfold dbB rbB
 rw [← okP_is]
 cases h:okP R with
 |false=>rfl
 |true=>
  rw [blks_is fun r hr=>?_]
  have h2:=(Bool.and_eq_true_iff.1 h).2
  obtain ⟨j,hj,rfl⟩:=List.getElem_of_mem hr
  have:=allI_iff.1 h2 (j:Int) (by omega) (by simpa using hj)
  unfold isI at this
  rw [Int.toNat_natCast,List.getD_eq_getElem?_getD,List.getElem?_eq_getElem hj] at this
  exact this
end Go.Proofs.Ytdenmoiaiemokaa
set_option linter.unusedVariables false
set_option linter.unusedSimpArgs false
namespace Go.Proofs.Ytdenmoiaiemokaa
open Go.RowKit
end Go.Proofs.Ytdenmoiaiemokaa
set_option linter.unusedVariables false
set_option linter.unusedSimpArgs false
namespace Go.Proofs.Ytdenmoiaiemokaa
open Go.RowKit
end Go.Proofs.Ytdenmoiaiemokaa
set_option linter.unusedVariables false
set_option linter.unusedSimpArgs false
namespace Go.Proofs.Ytdenmoiaiemokaa
open Go.RowKit
def gU (s:RS):UInt8:=UInt8.ofNat (IntKind.u8.wrap (s.num 8:Int)).toNat
def gL:Nat→RS→List UInt8
 |0,_=>[]
 |n+1,s=>gU s::gL n (s.get 8)
def gS:Nat→RS→RS
 |0,s=>s
 |n+1,s=>gS n (s.get 8)
def gN (s:RS):Int:=if (16:Int)<IntKind.i64.wrap (s.num 5:Int) then 16 else IntKind.i64.wrap (s.num 5:Int)
def g4 (s:RS):RS:=(((s.get 5).get 6).get 31).get 2
def gNm (s:RS):ByteArray:=⟨((gL 16 (g4 s)).take (gN s).toNat).toArray⟩
def gA (s:RS):Int:=IntKind.i64.wrap ((s.get 5).num 6:Int)
def gB (s:RS):Int:=IntKind.i64.wrap (((s.get 5).get 6).num 31:Int)
def gC (s:RS):Int:=IntKind.i64.wrap ((((s.get 5).get 6).get 31).num 2:Int)
def gE (s:RS):RS:=gS 16 (g4 s)
theorem RS.num_lt (s:RS) (n:Nat):s.num (n:Int)<2 ^ n:=by
 unfold RS.num getV
 split
 ·have h:=val_lt (bitsFrom s.l s.at' (n:Int).toNat)
  refine Nat.lt_of_lt_of_le h (Nat.pow_le_pow_right (by decide) ?_)
  unfold bitsFrom
  rw [Int.toNat_natCast]
  exact List.length_take_le ..
 ·exact Nat.pow_pos (by decide)
end Go.Proofs.Ytdenmoiaiemokaa
set_option linter.unusedVariables false
set_option linter.unusedSimpArgs false
namespace Go.Proofs.Ytdenmoiaiemokaa
open Go.RowKit
end Go.Proofs.Ytdenmoiaiemokaa
set_option linter.unusedVariables false
set_option linter.unusedSimpArgs false
namespace Go.Proofs.Ytdenmoiaiemokaa
open Go.RowKit
def entG (s:RS):Rw:=⟨[gA s,gB s,gC s],[gNm s]⟩
def stE (X:List Rw) (s:RS):Nat→List Rw×RS
 |0=>(X,s)
 |k+1=>(bif (gNm (stE X s k).2).toList==(⟨#[]⟩:ByteArray).toList then (stE X s k).1 else (stE X s k).1++[entG (stE X s k).2],gE (stE X s k).2)
def stO (L:List (List UInt8)):Nat→List Rw
 |0=>[]
 |k+1=>(stE (stO L k) (RS.new (L.getD k [])) 5).1
end Go.Proofs.Ytdenmoiaiemokaa
set_option linter.unusedVariables false
set_option linter.unusedSimpArgs false
namespace Go.Proofs.Ytdenmoiaiemokaa
open Go.RowKit
end Go.Proofs.Ytdenmoiaiemokaa
set_option linter.unusedVariables false
set_option linter.unusedSimpArgs false
namespace Go.Proofs.Ytdenmoiaiemokaa
open Go.RowKit
section
variable {W0:World} {G:Nat→Prop} {sz:Nat} {w:World} {e:Env} {mem:Mem Td}
def regO (id:Nat):Code→List Oper
 |.region i ops _=>match eqb i id with|true=>ops.toList|false=>[]
 |.seq x y=>regO id x++regO id y
 |.cond _ x y=>regO id x++regO id y
 |.block _ c=>regO id c
 |.loop c=>regO id c
 |_=>[]
def drwR (id:Nat):Code→Bool
 |.region i _ d=>match eqb i id with|true=>d|false=>false
 |.seq x y=>drwR id x||drwR id y
 |.cond _ x y=>drwR id x||drwR id y
 |.block _ c=>drwR id c
 |.loop c=>drwR id c
 |_=>false
def mapG (f:Mem Td→Mem Td) (S:Sy Td) (sz:Nat) (l:List Oper) (d:Bool):SSt Td→Option (Tr Td):=fun s=>forceN (s.ver+1) fun v=>some (regionB S sz l d ⟨s.base,f s.mem,v⟩)
theorem mapG_sound {Sq:Sy Td} (hS:SyOk Sq Id' W0 G) {S:Sy Td} (hP:S.P=Sq.P) {id:Nat} {l:List Oper} {d:Bool} {f:Mem Td→Mem Td} (hf:∀ w e mem,MemOk W0 G Id' w e mem→MemOk W0 G Id' w e (f mem)):FragSound S Id' W0 G sz (.region id l.toArray d) (mapG f Sq sz l d):=by
 intro s t hg
 unfold mapG at hg
 rw [forceN_eq] at hg
 simp only [Option.some.injEq] at hg
 subst hg
 refine ⟨Tr.all_mono (fun s' h=>?_) (regionB_after (S:=Sq) (sz:=sz) (l:=l) (d:=d) (s:=⟨s.base,f s.mem,s.ver+1⟩)),fun K hK Q a w e hfr hM hend=>?_⟩
 ·obtain ⟨⟨pre,h1,h2⟩,h3,_⟩:=h
  refine ⟨⟨pre,h1,fun p hp=>by simpa [writesC] using h2 p hp⟩,Nat.le_of_succ_le h3,fun hv=>absurd (hv▸h3) (Nat.not_succ_le_self _)⟩
 ·rw [hP]
  exact regionB_sound hS (s:=⟨s.base,f s.mem,s.ver+1⟩) hK hfr (hf w e s.mem hM) fun s' e' a' w' hg hk hf' hM'=>hend .normal s' e' a' w' hg hk hf' hM'
def modAt (g:En Td→En Td):Nat→Mem Td→Mem Td
 |_,[]=>[]
 |0,en::r=>g en::r
 |i+1,en::r=>en::modAt g i r
theorem modAt_len (g:En Td→En Td):∀ (i:Nat) (m:Mem Td),(modAt g i m).length=m.length
 |_,[]=>by simp [modAt]
 |0,en::r=>rfl
 |i+1,en::r=>by simp [modAt,modAt_len g i r]
theorem modAt_get (g:En Td→En Td):∀ (i:Nat) (m:Mem Td) (j:Nat) (n:En Td),(modAt g i m)[j]? =some n→∃ n0,m[j]? =some n0∧(n=n0∨n=g n0)
 |_,[],j,n,h=>by simp [modAt] at h
 |0,en::r,0,n,h=>by simp [modAt] at h;exact ⟨en,rfl,.inr h.symm⟩
 |0,en::r,j+1,n,h=>by simp [modAt] at h;exact ⟨n,by simpa using h,.inl rfl⟩
 |i+1,en::r,0,n,h=>by simp [modAt] at h;exact ⟨en,rfl,.inl h.symm⟩
 |i+1,en::r,j+1,n,h=>by
  simp only [modAt,List.getElem?_cons_succ] at h ⊢
  exact modAt_get g i r j n h
end
end Go.Proofs.Ytdenmoiaiemokaa
set_option linter.unusedVariables false
set_option linter.unusedSimpArgs false
namespace Go.Proofs.Ytdenmoiaiemokaa
open Go.RowKit
section
variable {W0:World} {G:Nat→Prop} {w:World} {e:Env} {mem:Mem Td}
def fzE (en:En Td):En Td:=match en.ob with
 |.blk cs=>⟨.blk cs,false⟩
 |_=>en
theorem fz_ok (i:Nat) (w:World) (e:Env) (mem:Mem Td) (hM:MemOk W0 G Id' w e mem):MemOk W0 G Id' w e (modAt fzE i mem):=by
 have key:∀ (j:Nat) (n':En Td),(modAt fzE i mem)[j]? =some n'→∃ n,mem[j]? =some n∧(∀ u,Holds Id' e w u n.mu n.ob→Holds Id' e w u n'.mu n'.ob)∧(∀ u k,Foot Id' w u n'.ob k→Foot Id' w u n.ob k)∧(n'.mu=true→n'=n):=fun j n' hn=>by
  obtain ⟨n,h1,h2⟩:=modAt_get _ _ _ _ _ hn
  refine ⟨n,h1,?_⟩
  rcases h2 with rfl|rfl
  ·exact ⟨fun u h=>h,fun u k h=>h,fun _=>rfl⟩
  ·unfold fzE
   split
   ·rename_i cs hb
    rw [hb]
    exact ⟨fun u ⟨b,o,h1,h2⟩=>⟨b,o,h1,fun j p hp=>by obtain ⟨x,g1,g2,_⟩:=h2 j p hp;exact ⟨x,g1,g2,fun h=>by cases h⟩⟩,fun u k h=>h,fun h=>by cases h⟩
   ·exact ⟨fun u h=>h,fun u k h=>h,fun _=>rfl⟩
 refine ⟨by rw [modAt_len];exact hM.len,fun j u n hu hn=>?_,fun j u n hu hn k hk=>?_,fun j u n hu hn hmu k hk=>?_,fun i' j u v n m hu hn hmu hv hm hij k hk1 hk2=>?_,hM.mod,fun j u n hu hn k hk=>?_⟩
 ·obtain ⟨n0,h1,h2,_⟩:=key j n hn
  exact h2 u (hM.holds j u n0 hu h1)
 ·obtain ⟨n0,h1,_,h3,_⟩:=key j n hn
  exact hM.lt j u n0 hu h1 k (h3 u k hk)
 ·obtain ⟨n0,h1,_,_,h4⟩:=key j n hn
  obtain rfl:=h4 hmu
  exact hM.own j u n hu h1 hmu k hk
 ·obtain ⟨n0,h1,_,_,h4⟩:=key i' n hn
  obtain ⟨m0,g1,_,g3,_⟩:=key j m hm
  obtain rfl:=h4 hmu
  exact hM.sep i' j u v n m0 hu h1 hmu hv g1 hij k hk1 (g3 v k hk2)
 ·obtain ⟨n0,h1,_,h3,_⟩:=key j n hn
  exact hM.rd j u n0 hu h1 k (h3 u k hk)
end
end Go.Proofs.Ytdenmoiaiemokaa
set_option linter.unusedVariables false
set_option linter.unusedSimpArgs false
namespace Go.Proofs.Ytdenmoiaiemokaa
open Go.RowKit
end Go.Proofs.Ytdenmoiaiemokaa
set_option linter.unusedVariables false
set_option linter.unusedSimpArgs false
namespace Go.Proofs.Ytdenmoiaiemokaa
open Go.RowKit
end Go.Proofs.Ytdenmoiaiemokaa
set_option linter.unusedVariables false
set_option linter.unusedSimpArgs false
namespace Go.Proofs.Ytdenmoiaiemokaa
open Go.RowKit
end Go.Proofs.Ytdenmoiaiemokaa
set_option linter.unusedVariables false
set_option linter.unusedSimpArgs false
namespace Go.Proofs.Ytdenmoiaiemokaa
open Go.RowKit
end Go.Proofs.Ytdenmoiaiemokaa
set_option linter.unusedVariables false
set_option linter.unusedSimpArgs false
namespace Go.Proofs.Ytdenmoiaiemokaa
open Go.RowKit
end Go.Proofs.Ytdenmoiaiemokaa
set_option linter.unusedVariables false
set_option linter.unusedSimpArgs false
namespace Go.Proofs.Ytdenmoiaiemokaa
open Go.RowKit
end Go.Proofs.Ytdenmoiaiemokaa
set_option linter.unusedVariables false
set_option linter.unusedSimpArgs false
namespace Go.Proofs.Ytdenmoiaiemokaa
open Go.RowKit
end Go.Proofs.Ytdenmoiaiemokaa
set_option linter.unusedVariables false
set_option linter.unusedSimpArgs false
namespace Go.Proofs.Ytdenmoiaiemokaa
open Go.RowKit
end Go.Proofs.Ytdenmoiaiemokaa
set_option linter.unusedVariables false
set_option linter.unusedSimpArgs false
namespace Go.Proofs.Ytdenmoiaiemokaa
open Go.RowKit
section
variable {β:Type} {S:Sy β} {I:ObI β} {W0:World} {G:Nat→Prop} {L:Lps β} {P:Program} {w w':World} {E e e':Env} {MEM mem ms:Mem β} {hard:β→Bool}
def ctrVn (d:Nat) (spec:CtrV β) (hard:β→Bool):Fn2 β:=fun us mem=>forceL (cloH mem (d+lenL (hsCs us [])) 0 (hsCs us [])) fun is=>
 match nodupB is&&liveIs mem is,mapO (dnC is) us,dnMG hard is mem is with
 |true,some us0,some (sub,qs)=>(match spec (cvCs us0) (roM (canM sub)) with
  |some (ps,v)=>some (qs++ps,svOf v,none)
  |none=>none)
 |_,_,_=>none
theorem ctrVn_ok (d:Nat) {f:FuncId} {spec:CtrV β} (he:∀ us w,(callFunc f us).run P w=.ok (.enter f us) w) (hspec:CtrVOk P I f spec):RowOk P I hard f (ctrVn d spec hard):=by
 refine ⟨he,fun W0 G args mem ps r mo hr hp w E us hM ha=>?_,fun args m m' ps r hr hl=>?_,fun args mem ps r m' hr=>?_⟩
 ·unfold ctrVn at hr
  rw [forceL_eq] at hr
  split at hr
  ·rename_i us0 sub qs hB h1 h2
   split at hr
   ·rename_i pps v hs
    simp only [Option.some.injEq,Prod.mk.injEq] at hr
    obtain ⟨rfl,rfl,rfl⟩:=hr
    rw [Bool.and_eq_true] at hB
    have hn:=nodupB_iff hB.1
    let is:=cloH mem (d+lenL (hsCs args [])) 0 (hsCs args [])
    let e:Env:=is.map fun i=>E.getD i undef
    have hee:∀ j i:Nat,is[j]? =some i→e[j]? =E[i]? :=fun j i hj=>by
     obtain ⟨en,h3,_⟩:=liveIs_mem hB.2 i (List.mem_of_getElem? hj)
     have hlt:i<E.length:=by rw [hM.len];exact (List.getElem?_eq_some_iff.1 h3).1
     simp only [e,List.getElem?_map,hj,Option.map_some,List.getD_eq_getElem?_getD]
     rw [List.getElem?_eq_getElem hlt];rfl
    have hsub:=subG_ok (e:=e) hM hn h2 (fun p h=>hp p (List.mem_append_left _ h)) (by simp [e,is]) hee
    exact (hspec _ _ pps v hs (fun p h=>hp p (List.mem_append_right _ h)) w e us (MemOk.ro (by rw [footOf_can];exact hsub.can)) (cvCs_is (dnCs_is hee h1 ha))).mono fun y w' ⟨h4,h5⟩=>⟨v,h4,svOf_is E v,h5⟩
   ·cases hr
  ·cases hr
 ·unfold ctrVn at hr ⊢
  rw [forceL_eq] at hr ⊢
  split at hr
  ·rename_i us0 sub qs hB h1 h2
   have hB':=hB
   rw [Bool.and_eq_true] at hB'
   obtain ⟨g1,_⟩:=cloH_mono hl _ _ _ hB'.2
   obtain ⟨g2,g3⟩:=liveIs_mono hl hB'.2
   rw [g1,hB'.1,g2,h1,dnMG_mono g3,h2]
   exact hr
  ·cases hr
 ·unfold ctrVn at hr
  rw [forceL_eq] at hr
  split at hr
  ·split at hr<;>simp at hr
  ·cases hr
end
end Go.Proofs.Ytdenmoiaiemokaa
set_option linter.unusedVariables false
set_option linter.unusedSimpArgs false
namespace Go.Proofs.Ytdenmoiaiemokaa
open Go.RowKit
set_option maxRecDepth 100000 in
theorem kS_w0 (T:List ((Int×Int)×Int)) (x y z:Int) :∃ qs,wayV ((runFn (⟨Try.prog,[(43,ctrV C_tmd hardD)],[E_of Try.prog 57,E_of Try.prog 72],dkHo,Id'.one,60⟩:Sy Td) [] Try.f105 [.agg [.v (.int .i64 x),.v (.int .i64 y),.v (.int .i64 z)],.one (.ptr 0 0)] (roM [⟨.blk [.ptr 1 0],false⟩,⟨.bx [.obj 2],true⟩,⟨.us (.ext (.mp T)),true⟩])).al []) (fun u=>u=.bool (mdE T x y z==0))=some qs∧∀ q∈qs,q:=
 ⟨[Value.bool (mdE T x y z==(0:Int))=Value.bool (mdE T x y z==(0:Int))],by kernel_rfl,(by refine mcons ?_ mnil<;>first|rfl|trivial)⟩
def C_kS:CtrV Td:=fun us sub=>match us,sub with
 |[.agg [.v (.int .i64 x),.v (.int .i64 y),.v (.int .i64 z)],.one (.ptr 0 0)],[⟨.blk [.ptr 1 0],false⟩,⟨.bx [.obj 2],false⟩,⟨.us (.ext (.mp T)),false⟩]=>some ([],.bool (mdE T x y z==0))
 |_,_=>none
set_option maxRecDepth 100000 in
theorem C_kS_ok:CtrVOk Try.prog Id' 105 C_kS:=by
 intro us sub ps x h hp w e vs hM ha
 unfold C_kS at h
 split at h
 ·rename_i x y z T
  simp only [Option.some.injEq,Prod.mk.injEq] at h
  obtain ⟨rfl,rfl⟩:=h
  exact ctrv_way (I:=Id') (fun (W0:World) (G:Nat→Prop)=>SyOk.mk2 Try.mixed dkHo_ok (FnsR.cons (R_tmd) (FnsR.nil)) (E_of_ok (by kernel_rfl) (E_of_ok (by kernel_rfl) (EqsOk.nil)))) rfl Try.func105 (by kernel_rfl) (fun W0 G=>LpsOk.nil _) (cs:=[]) (by kernel_rfl) (kS_w0 T x y z ) w e vs hM ha
 ·cases h
theorem RN_kS:RowOk Try.prog Id' hardD 105 (ctrVn 3 C_kS hardD):=ctrVn_ok 3 Try.call105 C_kS_ok
def hitD (a b c:Int) (r:Rw):Bool:=r.is.getD 0 0==a&&(r.is.getD 1 0==b&&true)&&(r.is.getD 2 0==c&&true)
def hitS (T:List ((Int×Int)×Int)) (r:Rw):Bool:=mdE T (r.is.getD 0 0) (r.is.getD 1 0) (r.is.getD 2 0)==0
def pkW (p:Rw→Bool) (Y:List Rw) (i:Int):Bool:=!p (Y.getD i.toNat Rw.zero)
theorem pkW_no {p:Rw→Bool} {Y:List Rw} {i:Int} (h:pkW p Y i=true):p (Y.getD i.toNat Rw.zero)=false:=by simpa [pkW] using h
theorem pkW_yes {p:Rw→Bool} {Y:List Rw} {i:Int} (h:pkW p Y i=false):p (Y.getD i.toNat Rw.zero)=true:=by simpa [pkW] using h
def dlW (p:Rw→Bool) (Q:List Rw) (i0:Nat):Nat→List Rw×Nat
 |0=>(Q,i0)
 |k+1=>bif !p ((dlW p Q i0 k).1.getD (i0+1+k) Rw.zero) then ((dlW p Q i0 k).1.set (dlW p Q i0 k).2 (nr3 ((dlW p Q i0 k).1.getD (i0+1+k) Rw.zero)),(dlW p Q i0 k).2+1) else dlW p Q i0 k
theorem dlW_len (p:Rw→Bool) (Q:List Rw) (i0:Nat):∀ k,(dlW p Q i0 k).1.length=Q.length∧(dlW p Q i0 k).2≤i0+k
 |0=>⟨rfl,Nat.le_refl _⟩
 |k+1=>by
  obtain ⟨h1,h2⟩:=dlW_len p Q i0 k
  unfold dlW
  cases (!p ((dlW p Q i0 k).1.getD (i0+1+k) Rw.zero)) with
  |true=>exact ⟨by simp only [cond_true,List.length_set];exact h1,by simp only [cond_true];omega⟩
  |false=>exact ⟨by simp only [cond_false];exact h1,by simp only [cond_false];omega⟩
theorem dlW_inv (p:Rw→Bool) (R:List Rw) (i0:Nat) (hn:R.map nr3=R) (hi:i0<R.length) (h0:p (R.getD i0 Rw.zero)=true) (hk0:∀ q,q<i0→p (R.getD q Rw.zero)=false):∀ k,i0+1+k≤R.length→
  (dlW p R i0 k).1.take (dlW p R i0 k).2=(R.take (i0+1+k)).filter (fun r=>!p r)∧∀ q,i0+1+k≤q→(dlW p R i0 k).1[q]? =R[q]?
 |0,_=>by
  refine ⟨?_,fun q _=>rfl⟩
  show R.take i0=(R.take (i0+1)).filter (fun r=>!p r)
  have hx:R.getD i0 Rw.zero=R[i0]:=by rw [List.getD_eq_getElem?_getD,List.getElem?_eq_getElem hi];rfl
  rw [List.take_add_one,List.getElem?_eq_getElem hi,List.filter_append]
  rw [hx] at h0
  rw [show (some R[i0]).toList=[R[i0]] from rfl,show List.filter (fun r=>!p r) [R[i0]]=[] by simp [h0],List.append_nil]
  symm
  rw [List.filter_eq_self]
  intro x hx'
  obtain ⟨q,hq,rfl⟩:=List.mem_iff_getElem.1 hx'
  rw [List.length_take] at hq
  have:=hk0 q (by omega)
  rw [List.getD_eq_getElem?_getD,List.getElem?_eq_getElem (by omega)] at this
  simpa using this
 |k+1,hk=>by
  obtain ⟨h1,h2⟩:=dlW_inv p R i0 hn hi h0 hk0 k (by omega)
  obtain ⟨g1,g2⟩:=dlW_len p R i0 k
  have hj:i0+1+k<R.length:=by omega
  have hx:(dlW p R i0 k).1.getD (i0+1+k) Rw.zero=R[i0+1+k]:=by rw [List.getD_eq_getElem?_getD,h2 _ (Nat.le_refl _),List.getElem?_eq_getElem hj];rfl
  have hnx:nr3 R[i0+1+k]=R[i0+1+k]:=by
   have:=congrArg (fun l=>l[i0+1+k]?) hn
   simp only [List.getElem?_map,List.getElem?_eq_getElem hj,Option.map_some,Option.some.injEq] at this
   exact this
  have htk:R.take (i0+1+(k+1))=R.take (i0+1+k)++[R[i0+1+k]]:=by
   rw [show i0+1+(k+1)=i0+1+k+1 by omega,List.take_add_one,List.getElem?_eq_getElem hj];rfl
  rw [htk,List.filter_append]
  unfold dlW
  rw [hx]
  cases hq:p R[i0+1+k] with
  |false=>
   simp only [Bool.not_false,cond_true]
   refine ⟨?_,fun q hq'=>?_⟩
   ·rw [hnx,←h1,show List.filter (fun r=>!p r) [R[i0+1+k]]=[R[i0+1+k]] by simp [hq],List.take_add_one,List.getElem?_set_self (by omega)]
    rw [List.take_set_of_le (Nat.le_refl _)]
    rfl
   ·rw [List.getElem?_set_ne (by omega)]
    exact h2 q (by omega)
  |true=>
   simp only [Bool.not_true,cond_false]
   refine ⟨?_,fun q hq'=>h2 q (by omega)⟩
   rw [h1,show List.filter (fun r=>!p r) [R[i0+1+k]]=[] by simp [hq],List.append_nil]
theorem dlW_all {R:List Rw} {p:Rw→Bool} (h:∀ i:Int,((0:Nat):Int)≤i→i.toNat<R.length→pkW p R i=true):R.filter (fun r=>!p r)=R:=by
 rw [List.filter_eq_self]
 intro x hx
 obtain ⟨q,hq,rfl⟩:=List.mem_iff_getElem.1 hx
 have:=pkW_no (h (q:Int) (by omega) (by simpa using hq))
 rw [Int.toNat_natCast,List.getD_eq_getElem?_getD,List.getElem?_eq_getElem hq] at this
 simpa using this
end Go.Proofs.Ytdenmoiaiemokaa
set_option linter.unusedVariables false
set_option linter.unusedSimpArgs false
namespace Go.Proofs.Ytdenmoiaiemokaa
open Go.RowKit
def hitr (a b c:Int) (r:Rw):Bool:=r.is.getD 0 0==a&&(r.is.getD 1 0==b&&true)&&r.is.getD 2 0==c
theorem getD_at {Y:List Rw} {q:Nat} (h:q<Y.length):Y.getD q Rw.zero=Y[q]:=by
 rw [List.getD_eq_getElem?_getD,List.getElem?_eq_getElem h];rfl
theorem getD_atI {L:List Int} {q:Nat} (h:q<L.length):L.getD q 0=L[q]:=by
 rw [List.getD_eq_getElem?_getD,List.getElem?_eq_getElem h];rfl
theorem hs_any (Y:List Rw) (a b c:Int):hsE Y a b c=Y.any (hitr a b c):=by
 unfold hsE
 rcases fst_cases Y.length (atP Y a b c) with ⟨hv,hall⟩|⟨h1,h2,h3,h4⟩
 ·rw [hv]
  symm
  show Y.any (hitr a b c)=false
  rw [List.any_eq_false]
  intro x hx
  obtain ⟨q,hq,rfl⟩:=List.mem_iff_getElem.1 hx
  have h:=hit_no (hall (q:Int) (by omega) (by simpa using hq))
  unfold hitR at h
  rw [Int.toNat_natCast,getD_at hq] at h
  unfold hitr
  rw [h];decide
 ·rw [beq_eq_false_iff_ne.2 (by omega)]
  symm
  show Y.any (hitr a b c)=true
  rw [List.any_eq_true]
  refine ⟨Y[(fstI Y.length (atP Y a b c)).toNat],List.getElem_mem ..,?_⟩
  have h:=hit_yes h3
  unfold hitR at h
  rw [getD_at h2] at h
  exact h
theorem hitr_eq {a b c:Int} {r:Rw} (h:hitr a b c r=true):r.is.getD 0 0=a∧r.is.getD 1 0=b∧r.is.getD 2 0=c:=by
 unfold hitr at h
 rw [Bool.and_eq_true,Bool.and_eq_true,Bool.and_true,beq_iff_eq,beq_iff_eq,beq_iff_eq] at h
 exact ⟨h.1.1,h.1.2,h.2⟩
theorem hitr_new (a b c c':Int):hitr a b c' ⟨[a,b,c],[]⟩=(c==c'):=by
 show (a==a&&(b==b&&true)&&c==c')=_
 rw [beq_self_eq_true,beq_self_eq_true];rfl
theorem wt_any (X:List Rw) (a b c:Int) (hc:0≤c∧c<8) (c':Int):(wtT X a b c).any (hitr a b c')=(X.any (hitr a b c')||c==c'):=by
 unfold wtT
 rw [show (decide (c<0)||decide (c>7))=false by rw [Bool.or_eq_false_iff,decide_eq_false_iff_not,decide_eq_false_iff_not];omega]
 rw [cond_false]
 cases h:hsE X a b c with
 |true=>
  rw [cond_true]
  cases hcc:(c==c') with
  |false=>rw [Bool.or_false]
  |true=>
   rw [beq_iff_eq] at hcc
   subst hcc
   rw [← hs_any,h];rfl
 |false=>
  rw [cond_false,List.any_append]
  congr 1
  rw [List.any_cons,List.any_nil,Bool.or_false,hitr_new]
theorem wt_zero (X:List Rw) (a b c:Int) (hc:0≤c∧c<8):(wtE X a b c==0)=!hsE X a b c:=by
 unfold wtE
 rw [show (decide (c<0)||decide (c>7))=false by rw [Bool.or_eq_false_iff,decide_eq_false_iff_not,decide_eq_false_iff_not];omega,cond_false]
 cases hsE X a b c<;>rfl
theorem ne_inv (Y:List Rw) (a b:Int) (L:List Int) (hL:∀ c∈L,0≤c∧c<8) (hn:L.Nodup):∀ k,k≤L.length→
  (∀ c',(neS Y a b L k).1.any (hitr a b c')=(Y.any (hitr a b c')||(L.take k).contains c'))∧(neS Y a b L k).2=(((L.take k).filter fun c=>!hsE Y a b c).length:Int)
 |0,_=>⟨fun c'=>by rw [List.take_zero];show Y.any _=_;simp,rfl⟩
 |k+1,hk=>by
  obtain ⟨h1,h2⟩:=ne_inv Y a b L hL hn k (by omega)
  have hj:k<L.length:=by omega
  have hx:L.getD k 0=L[k]:=getD_atI hj
  have hc:=hL L[k] (List.getElem_mem hj)
  have htk:L.take (k+1)=L.take k++[L[k]]:=by rw [List.take_add_one,List.getElem?_eq_getElem hj];rfl
  refine ⟨fun c'=>?_,?_⟩
  ·show (wtT (neS Y a b L k).1 a b (L.getD k 0)).any _=_
   rw [hx,wt_any _ _ _ _ hc,h1,htk,Bool.or_assoc]
   congr 1
   rw [List.contains_eq_any_beq,List.contains_eq_any_beq,List.any_append,List.any_cons,List.any_nil,Bool.or_false,BEq.comm]
  ·show (bif wtE (neS Y a b L k).1 a b (L.getD k 0)==0 then (neS Y a b L k).2+1 else (neS Y a b L k).2)=_
   have hnot:(L.take k).contains L[k]=false:=by
    rw [List.contains_eq_any_beq,List.any_eq_false]
    intro x hx' he
    obtain ⟨q,hq,rfl⟩:=List.mem_iff_getElem.1 hx'
    rw [List.length_take] at hq
    rw [List.getElem_take,beq_iff_eq] at he
    exact List.pairwise_iff_getElem.1 hn q k (by omega) hj (by omega) he.symm
   rw [hx,wt_zero _ _ _ _ hc,hs_any,h1,hnot,Bool.or_false,←hs_any,htk,List.filter_append,List.length_append,h2]
   cases hz:hsE Y a b L[k] with
   |true=>rw [Bool.not_true,cond_false];simp [List.filter_cons,hz]
   |false=>rw [Bool.not_false,cond_true];simp [List.filter_cons,hz]
def rng (k:Nat):List Int:=(List.range k).map fun i:Nat=>(i:Int)
theorem rng_succ (k:Nat):rng (k+1)=rng k++[(k:Int)]:=by unfold rng;rw [List.range_succ,List.map_append];rfl
theorem rng_mem {k:Nat} {c:Int}:c∈rng k↔0≤c∧c<k:=by
 unfold rng
 rw [List.mem_map]
 constructor
 ·rintro ⟨i,hi,rfl⟩
  have:=List.mem_range.1 hi
  omega
 ·rintro ⟨h0,h1⟩
  exact ⟨c.toNat,List.mem_range.2 (by omega),by omega⟩
theorem rng_nodup (k:Nat):(rng k).Nodup:=by
 induction k with
 |zero=>exact List.nodup_nil
 |succ k ih=>
  rw [rng_succ,List.nodup_append]
  refine ⟨ih,by simp,fun x hx y hy=>?_⟩
  rw [List.mem_singleton] at hy
  subst hy
  have:=(rng_mem.1 hx).2
  omega
theorem hol_rng (T:List ((Int×Int)×Int)) (a b:Int):∀ k,holS T a b k=(rng k).filter fun c=>mdE T a b c != 0
 |0=>rfl
 |k+1=>by
  rw [rng_succ,List.filter_append,←hol_rng T a b k]
  cases h:(mdE T a b (k:Int) != 0) with
  |true=>rw [holS_yes T a b h];congr 1;simp only [List.filter_cons,h];rfl
  |false=>rw [holS_no T a b h];simp only [List.filter_cons,h];simp
theorem oth_take (T:List ((Int×Int)×Int)) (a b cl md:Int) (L:List Int):∀ k,k≤L.length→othS T a b cl md L k=(L.take k).filter fun c=>c != cl&&(md==2||mdE T a b c==2)
 |0,_=>by rw [List.take_zero];rfl
 |k+1,hk=>by
  have hj:k<L.length:=by omega
  have htk:L.take (k+1)=L.take k++[L[k]]:=by rw [List.take_add_one,List.getElem?_eq_getElem hj];rfl
  rw [htk,List.filter_append,←oth_take T a b cl md L k (by omega)]
  have hx:L.getD k 0=L[k]:=getD_atI hj
  cases h:(L.getD k 0 != cl&&(md==2||mdE T a b (L.getD k 0)==2)) with
  |true=>rw [othS_yes T a b cl md L h,hx];rw [hx] at h;congr 1;simp only [List.filter_cons,h];rfl
  |false=>rw [othS_no T a b cl md L h];rw [hx] at h;simp only [List.filter_cons,h];simp
def inWay (T:List ((Int×Int)×Int)) (a b cl md c:Int):Bool:=(mdE T a b c != 0)&&(c != cl&&(md==2||mdE T a b c==2))
theorem oth_rng (T:List ((Int×Int)×Int)) (a b cl md:Int):othE T a b cl md=(rng 8).filter (inWay T a b cl md):=by
 unfold othE
 rw [oth_take _ _ _ _ _ _ _ (Nat.le_refl _),List.take_of_length_le (Nat.le_refl _),hol_rng,List.filter_filter]
 congr 1
 funext c
 unfold inWay
 exact Bool.and_comm _ _
theorem oth_in {T:List ((Int×Int)×Int)} {a b cl md c:Int} (h:c∈othE T a b cl md):0≤c∧c<8:=by
 rw [oth_rng] at h
 exact rng_mem.1 (List.mem_filter.1 h).1
theorem oth_nodup (T:List ((Int×Int)×Int)) (a b cl md:Int):(othE T a b cl md).Nodup:=by
 rw [oth_rng]
 exact (rng_nodup 8).sublist List.filter_sublist
theorem oth_has {T:List ((Int×Int)×Int)} {a b cl md c:Int} (hc:0≤c∧c<8):(othE T a b cl md).contains c=inWay T a b cl md c:=by
 rw [oth_rng,Bool.eq_iff_iff]
 simp only [List.contains_iff_mem,List.mem_filter]
 exact ⟨fun h=>h.2,fun h=>⟨rng_mem.2 hc,h⟩⟩
theorem pn_any (Y:List Rw) (Z:List ((Int×Int)×Int)) (a b cl md c:Int) (hc:0≤c∧c<8):(pnE Y Z a b cl md).1.any (hitr a b c)=(Y.any (hitr a b c)||inWay Z a b cl md c):=by
 have h:=(ne_inv Y a b (othE Z a b cl md) (fun c hc=>oth_in hc) (oth_nodup Z a b cl md) _ (Nat.le_refl _)).1 c
 rw [List.take_of_length_le (Nat.le_refl _),oth_has hc] at h
 exact h
theorem pn_num (Y:List Rw) (Z:List ((Int×Int)×Int)) (a b cl md:Int):(pnE Y Z a b cl md).2=(((rng 8).filter fun c=>inWay Z a b cl md c&&!hsE Y a b c).length:Int):=by
 have h:=(ne_inv Y a b (othE Z a b cl md) (fun c hc=>oth_in hc) (oth_nodup Z a b cl md) _ (Nat.le_refl _)).2
 rw [List.take_of_length_le (Nat.le_refl _)] at h
 show (neS Y a b (othE Z a b cl md) (othE Z a b cl md).length).2=_
 rw [h,oth_rng,List.filter_filter]
 congr 2
 congr 1
 funext c
 exact Bool.and_comm _ _
def stQ (Q:List Rw) (Z:List ((Int×Int)×Int)):List Rw:=Q.filter fun r=>!hitS Z r
theorem st_any (Q:List Rw) (Z:List ((Int×Int)×Int)) (a b c:Int):(stQ Q Z).any (hitr a b c)=(Q.any (hitr a b c)&&mdE Z a b c != 0):=by
 unfold stQ
 induction Q with
 |nil=>rfl
 |cons r Q ih=>
  rw [List.filter_cons,List.any_cons]
  cases h:hitr a b c r with
  |false=>
   split
   ·rw [List.any_cons,h,ih];rfl
   ·rw [ih];rfl
  |true=>
   obtain ⟨e0,e1,e2⟩:=hitr_eq h
   have hs:hitS Z r=(mdE Z a b c==0):=by unfold hitS;rw [e0,e1,e2]
   rw [hs]
   cases hm:(mdE Z a b c==0) with
   |true=>
    have hm2:(mdE Z a b c != 0)=false:=by rw [bne,hm];rfl
    rw [if_neg (by decide),ih,hm2,Bool.and_false,Bool.and_false]
   |false=>
    have hm2:(mdE Z a b c != 0)=true:=by rw [bne,hm];rfl
    rw [if_pos (by decide),List.any_cons,h,hm2];rfl
theorem st_has (Y:List Rw) (Z:List ((Int×Int)×Int)) (a b cl md c:Int) (hc:0≤c∧c<8):hsE (stQ (pnE Y Z a b cl md).1 Z) a b c=(inWay Z a b cl md c||(hsE Y a b c&&mdE Z a b c != 0)):=by
 rw [hs_any,st_any,pn_any _ _ _ _ _ _ _ hc,hs_any]
 unfold inWay
 cases (mdE Z a b c != 0)<;>cases Y.any (hitr a b c)<;>cases (c != cl&&(md==2||mdE Z a b c==2))<;>rfl
theorem st_mode (Q:List Rw) (Z:List ((Int×Int)×Int)) {r:Rw} (h:r∈stQ Q Z):(mdE Z (r.is.getD 0 0) (r.is.getD 1 0) (r.is.getD 2 0)==0)=false:=by
 have:=(List.mem_filter.1 h).2
 simpa [hitS] using this
theorem st_st (Q:List Rw) (Z:List ((Int×Int)×Int)):stQ (stQ Q Z) Z=stQ Q Z:=by
 unfold stQ
 rw [List.filter_filter]
 congr 1
 funext r
 exact Bool.and_self _
def nlS (Y:List Rw) (Z:List ((Int×Int)×Int)) (a b cl md:Int):Nat→Int
 |0=>(pnE Y Z a b cl md).2
 |k+1=>bif inWay Z a b cl md k&&!hsE Y a b k then nlS Y Z a b cl md k - 1 else nlS Y Z a b cl md k
theorem nl_eq (Y:List Rw) (Z:List ((Int×Int)×Int)) (a b cl md:Int):∀ k,nlS Y Z a b cl md k=(pnE Y Z a b cl md).2 - (((rng k).filter fun c=>inWay Z a b cl md c&&!hsE Y a b c).length:Int)
 |0=>by show _=_ - ((0:Nat):Int);simp [nlS]
 |k+1=>by
  rw [nlS,nl_eq Y Z a b cl md k,rng_succ,List.filter_append,List.length_append]
  cases h:(inWay Z a b cl md k&&!hsE Y a b k) with
  |true=>rw [cond_true];simp [List.filter_cons,h];omega
  |false=>rw [cond_false];simp [List.filter_cons,h]
theorem nl_end (Y:List Rw) (Z:List ((Int×Int)×Int)) (a b cl md:Int):nlS Y Z a b cl md 8=0:=by
 rw [nl_eq,pn_num];omega
theorem nl_in (Y:List Rw) (Z:List ((Int×Int)×Int)) (a b cl md:Int) (k:Nat) (hk:k≤8):-8≤nlS Y Z a b cl md k∧nlS Y Z a b cl md k≤8:=by
 rw [nl_eq,pn_num]
 have h1:((rng 8).filter fun c=>inWay Z a b cl md c&&!hsE Y a b c).length≤8:=Nat.le_trans (List.length_filter_le _ _) (by unfold rng;simp)
 have h2:((rng k).filter fun c=>inWay Z a b cl md c&&!hsE Y a b c).length≤k:=Nat.le_trans (List.length_filter_le _ _) (by unfold rng;simp)
 omega
def Nr3 (Q:List Rw):Prop:=Q.map nr3=Q
theorem nrm_wt {Q:List Rw} (h:Nr3 Q) (a b c:Int):Nr3 (wtT Q a b c):=by
 unfold wtT
 cases (decide (c<0)||decide (c>7)) with
 |true=>exact h
 |false=>
  cases hsE Q a b c with
  |true=>exact h
  |false=>
   show (Q++_).map nr3=Q++_
   rw [List.map_append,h];rfl
theorem nrm_filter {Q:List Rw} (h:Nr3 Q) (p:Rw→Bool):Nr3 (Q.filter p):=by
 show List.map nr3 (List.filter p Q)=List.filter p Q
 refine (List.map_congr_left (g:=id) fun x hx=>?_).trans (List.map_id _)
 obtain ⟨q,hq,rfl⟩:=List.mem_iff_getElem.1 ((List.mem_filter.1 hx).1)
 have:=congrArg (fun l=>l[q]?) h
 simp only [List.getElem?_map,List.getElem?_eq_getElem hq,Option.map_some,Option.some.injEq] at this
 exact this
theorem nrm_ne {Q:List Rw} (h:Nr3 Q) (a b:Int) (L:List Int):∀ k,Nr3 (neS Q a b L k).1
 |0=>h
 |k+1=>nrm_wt (nrm_ne h a b L k) a b _
theorem nrm_pn {Q:List Rw} (h:Nr3 Q) (Z:List ((Int×Int)×Int)) (a b cl md:Int):Nr3 (pnE Q Z a b cl md).1:=nrm_ne h a b _ _
theorem pn_len (Q:List Rw) (Z:List ((Int×Int)×Int)) (a b cl md:Int):(pnE Q Z a b cl md).1.length≤Q.length+8:=by
 have h:=(neS_len Q a b (othE Z a b cl md) (othE Z a b cl md).length).1
 have:=othS_len2 Z a b cl md
 show (neS Q a b (othE Z a b cl md) (othE Z a b cl md).length).1.length≤_
 omega
end Go.Proofs.Ytdenmoiaiemokaa
set_option linter.unusedVariables false
set_option linter.unusedSimpArgs false
namespace Go.Proofs.Ytdenmoiaiemokaa
open Go.RowKit
end Go.Proofs.Ytdenmoiaiemokaa
set_option linter.unusedVariables false
set_option linter.unusedSimpArgs false
namespace Go.Proofs.Ytdenmoiaiemokaa
open Go.RowKit
end Go.Proofs.Ytdenmoiaiemokaa
set_option linter.unusedVariables false
set_option linter.unusedSimpArgs false
namespace Go.Proofs.Ytdenmoiaiemokaa
open Go.RowKit
end Go.Proofs.Ytdenmoiaiemokaa
set_option linter.unusedVariables false
set_option linter.unusedSimpArgs false
namespace Go.Proofs.Ytdenmoiaiemokaa
open Go.RowKit
end Go.Proofs.Ytdenmoiaiemokaa
set_option linter.unusedVariables false
set_option linter.unusedSimpArgs false
namespace Go.Proofs.Ytdenmoiaiemokaa
open Go.RowKit
end Go.Proofs.Ytdenmoiaiemokaa
set_option linter.unusedVariables false
set_option linter.unusedSimpArgs false
namespace Go.Proofs.Ytdenmoiaiemokaa
open Go.RowKit
theorem own_self {W0:World} {G:Nat→Prop} {w:World} {e:Env} {mem:Mem Td} (hM:MemOk W0 G Id' w e mem) {i x:Nat} {ks:List Bool} {R:List Rw} {v:Value} (hm:mem[i]? =some ⟨.us (.ext (.flat (.rw x ks R))),true⟩) (hv:e[i]? =some v):(PV.sub i ks.length 0 R.length).is e v:=by
 obtain ⟨z0,B,hB,hown⟩:=hM.holds i _ _ hv hm
 rw [FL.len] at hown
 obtain ⟨_,ao,cap,hvv,hcap,_⟩:=Rs.of_owns hown
 have hvv:v=.slice ao R.length cap:=hvv
 refine ⟨ao,R.length,cap,by rw [← hvv];exact hv,Nat.zero_le _,Nat.le_refl _,?_⟩
 rw [hvv,Nat.sub_zero,Nat.sub_zero,Nat.zero_mul]
 cases ao with
 |none=>split<;>rfl
 |some y=>
  split
  ·rfl
  ·simp [Addr.add]
end Go.Proofs.Ytdenmoiaiemokaa
set_option linter.unusedVariables false
set_option linter.unusedSimpArgs false
namespace Go.Proofs.Ytdenmoiaiemokaa
open Go.RowKit
end Go.Proofs.Ytdenmoiaiemokaa
set_option linter.unusedVariables false
set_option linter.unusedSimpArgs false
namespace Go.Proofs.Ytdenmoiaiemokaa
open Go.RowKit
end Go.Proofs.Ytdenmoiaiemokaa
set_option linter.unusedVariables false
set_option linter.unusedSimpArgs false
namespace Go.Proofs.Ytdenmoiaiemokaa
open Go.RowKit
end Go.Proofs.Ytdenmoiaiemokaa
set_option linter.unusedVariables false
set_option linter.unusedSimpArgs false
namespace Go.Proofs.Ytdenmoiaiemokaa
open Go.RowKit
end Go.Proofs.Ytdenmoiaiemokaa
set_option linter.unusedVariables false
set_option linter.unusedSimpArgs false
namespace Go.Proofs.Ytdenmoiaiemokaa
open Go.RowKit
end Go.Proofs.Ytdenmoiaiemokaa
set_option linter.unusedVariables false
set_option linter.unusedSimpArgs false
namespace Go.Proofs.Ytdenmoiaiemokaa
open Go.RowKit
set_option maxRecDepth 100000 in
theorem ixS_n (Y:List Rw) (T:List ((Int×Int)×Int)) (i i2:Int) (k:Nat) (f:Nat→Value) (h0:decide (i<(Y.length:Int))=true) (h1:IntKind.i64.wrap (i+1)=i2) (h2:0≤i∧i.toNat<Y.length) (h3:pkW (hitS T) Y (i)=true):∃ qs,alN Id' 4 [(8,.c (.one (.v (.int .i64 i2))))] [⟨.us (.ext (.flat (.rw 72 [false,false,false] Y))),false⟩,⟨.blk [.ptr 2 0],false⟩,⟨.bx [.obj 3],false⟩,⟨.us (.ext (.mp T)),false⟩] ((symC (⟨Try.prog,[(105,ctrVn 3 C_kS hardD)],[E_of Try.prog 57,E_of Try.prog 72],dkHo,Id'.one,60⟩:Sy Td) [] 19 (hdC (loopsC (bodyOf Try.f173)) 0) ⟨[(8,.c (.one (.v (.int .i64 i))))]++anyB' (writesC (hdC (loopsC (bodyOf Try.f173)) 0)) ([(0,.c (.one (.obj 0))),(1,.c (.fn 105 [.ptr 1 0])),(7,.c (.one (.v (.int .i64 (Y.length:Int)))))]++tabV f 19),[⟨.us (.ext (.flat (.rw 72 [false,false,false] Y))),false⟩,⟨.blk [.ptr 2 0],false⟩,⟨.bx [.obj 3],false⟩,⟨.us (.ext (.mp T)),false⟩],0⟩).al [true,false])=some qs∧∀ q∈qs,q:=
 ⟨[decide (i<(↑Y.length:Int))=true,(0:Int)≤i∧i.toNat<(FL.rw 72 [false,false,false] Y).n,(mdE T ((Y.getD i.toNat Rw.zero).is.getD (0:Nat) (0:Int)) ((Y.getD i.toNat Rw.zero).is.getD ((0:Nat)+(1:Nat)) (0:Int)) ((Y.getD i.toNat Rw.zero).is.getD ((0:Nat)+(1:Nat)+(1:Nat)) (0:Int))==(0:Int))=false,(Th.ext (Dk.flat (FL.rw 72 [false,false,false] Y)):Td)=Th.ext (Dk.flat (FL.rw 72 [false,false,false] Y)),(Th.ext (Dk.mp T):Td)=Th.ext (Dk.mp T),Value.int IntKind.i64 (IntKind.i64.wrap (i+(1:Int)))=Value.int IntKind.i64 i2],by kernel_rfl,(by refine mcons ?_ (mcons ?_ (mcons ?_ (mcons ?_ (mcons ?_ (mcons ?_ mnil)))))<;>first|rfl|exact h0|exact h1|exact h2|exact h3|trivial|(exact congrArg _ h1)|(exact h2)|(exact pkW_no h3)|(exact pkW_yes h3))⟩
set_option maxRecDepth 100000 in
theorem ixS_x (Y:List Rw) (T:List ((Int×Int)×Int)) (i i2:Int) (k:Nat) (f:Nat→Value) (h0:decide (i<(Y.length:Int))=false):∃ qs,alX Id' 4 0 [] [⟨.us (.ext (.flat (.rw 72 [false,false,false] Y))),false⟩,⟨.blk [.ptr 2 0],false⟩,⟨.bx [.obj 3],false⟩,⟨.us (.ext (.mp T)),false⟩] ((symC (⟨Try.prog,[(105,ctrVn 3 C_kS hardD)],[E_of Try.prog 57,E_of Try.prog 72],dkHo,Id'.one,60⟩:Sy Td) [] 19 (hdC (loopsC (bodyOf Try.f173)) 0) ⟨[(8,.c (.one (.v (.int .i64 i))))]++anyB' (writesC (hdC (loopsC (bodyOf Try.f173)) 0)) ([(0,.c (.one (.obj 0))),(1,.c (.fn 105 [.ptr 1 0])),(7,.c (.one (.v (.int .i64 (Y.length:Int)))))]++tabV f 19),[⟨.us (.ext (.flat (.rw 72 [false,false,false] Y))),false⟩,⟨.blk [.ptr 2 0],false⟩,⟨.bx [.obj 3],false⟩,⟨.us (.ext (.mp T)),false⟩],0⟩).al [false])=some qs∧∀ q∈qs,q:=
 ⟨[decide (i<(↑Y.length:Int))=false,(Th.ext (Dk.flat (FL.rw 72 [false,false,false] Y)):Td)=Th.ext (Dk.flat (FL.rw 72 [false,false,false] Y)),(Th.ext (Dk.mp T):Td)=Th.ext (Dk.mp T)],by kernel_rfl,(by refine mcons ?_ (mcons ?_ (mcons ?_ mnil))<;>first|rfl|exact h0|trivial|(exact congrArg _ h1)|(exact h2)|(exact pkW_no h3)|(exact pkW_yes h3))⟩
set_option maxRecDepth 100000 in
theorem ixS_lpA (Y:List Rw) (T:List ((Int×Int)×Int)) (hL:Y.length≤100000)  (hall:∀ i:Int,0≤i→i.toNat<Y.length→pkW (hitS T) Y (i)=true) {W0:World} {G:Nat→Prop} (S0:Sy Td) (hS0:S0.P=Try.prog):LoopSound S0 Id' W0 G 19 (hdC (loopsC (bodyOf Try.f173)) 0) (lpG Id' 19 (hdC (loopsC (bodyOf Try.f173)) 0) 4 [(8,.c (.one (.v (.int .i64 ((0+0:Nat):Int)))))] [(0,.c (.one (.obj 0))),(1,.c (.fn 105 [.ptr 1 0])),(7,.c (.one (.v (.int .i64 (Y.length:Int)))))] [⟨.us (.ext (.flat (.rw 72 [false,false,false] Y))),false⟩,⟨.blk [.ptr 2 0],false⟩,⟨.bx [.obj 3],false⟩,⟨.us (.ext (.mp T)),false⟩] (.leaf (.exit 0) [] [⟨.us (.ext (.flat (.rw 72 [false,false,false] Y))),false⟩,⟨.blk [.ptr 2 0],false⟩,⟨.bx [.obj 3],false⟩,⟨.us (.ext (.mp T)),false⟩])):=by
 refine lp_sound (V:=fun k=>[(8,.c (.one (.v (.int .i64 ((k+0:Nat):Int)))))]) (M:=(fun k=>[⟨.us (.ext (.flat (.rw 72 [false,false,false] Y))),false⟩,⟨.blk [.ptr 2 0],false⟩,⟨.bx [.obj 3],false⟩,⟨.us (.ext (.mp T)),false⟩]:Nat→Mem Td)) (N:=Y.length) (Ux:=fun k x=>match x with|.exit 0=>some ([],([⟨.us (.ext (.flat (.rw 72 [false,false,false] Y))),false⟩,⟨.blk [.ptr 2 0],false⟩,⟨.bx [.obj 3],false⟩,⟨.us (.ext (.mp T)),false⟩]:Mem Td))|_=>none) (X:=fun _ _=>True) (J:=fun k=>True) (fun k=>by kernel_rfl) trivial (fun k hk hJ f=>?_) (fun K hK k x U hk hU hX=>?_)
 ·rw [hS0]
  cases hT:decide (((k+0:Nat):Int)<(Y.length:Int)) with
  |false=>
   exact rnd_xD (⟨Try.prog,[(105,ctrVn 3 C_kS hardD)],[E_of Try.prog 57,E_of Try.prog 72],dkHo,Id'.one,60⟩:Sy Td) rfl ((fun (W0:World) (G:Nat→Prop)=>SyOk.mk2 Try.mixed dkHo_ok (FnsR.cons (RN_kS) (FnsR.nil)) (E_of_ok (by kernel_rfl) (E_of_ok (by kernel_rfl) (EqsOk.nil)))) W0 G) (ixS_x Y T ((k+0:Nat):Int) ((k+1+0:Nat):Int) k f hT) rfl trivial
  |true=>
   have hk1:=of_decide_eq_true hT
   have hW:IntKind.i64.wrap (((k+0:Nat):Int)+1)=((k+1+0:Nat):Int):=by rw [IntWalk.i64_in _ (by omega)];omega
   exact rnd_nD (⟨Try.prog,[(105,ctrVn 3 C_kS hardD)],[E_of Try.prog 57,E_of Try.prog 72],dkHo,Id'.one,60⟩:Sy Td) rfl ((fun (W0:World) (G:Nat→Prop)=>SyOk.mk2 Try.mixed dkHo_ok (FnsR.cons (RN_kS) (FnsR.nil)) (E_of_ok (by kernel_rfl) (E_of_ok (by kernel_rfl) (EqsOk.nil)))) W0 G) (ixS_n Y T ((k+0:Nat):Int) ((k+1+0:Nat):Int) k f hT hW (by omega) (hall _ (by omega) (by omega)) ) rfl rfl (by omega) trivial
 ·revert hU
  match x with
  |.exit 0=>intro hU;simp only [Option.some.injEq] at hU;subst hU;exact hK
  |.normal=>intro hU;cases hU
  |.ret=>intro hU;cases hU
  |.exit (n+1)=>intro hU;cases hU
set_option maxRecDepth 100000 in
theorem ixS_r (Y:List Rw) (T:List ((Int×Int)×Int)) (i i2:Int) (k:Nat) (f:Nat→Value) (h0:decide (i<(Y.length:Int))=true) (h1:i=i2) (h2:0≤i∧i.toNat<Y.length) (h3:pkW (hitS T) Y (i)=false):∃ qs,alR Id' 4 [(4,.c (.one (.v (.int .i64 i2))))] [⟨.us (.ext (.flat (.rw 72 [false,false,false] Y))),false⟩,⟨.blk [.ptr 2 0],false⟩,⟨.bx [.obj 3],false⟩,⟨.us (.ext (.mp T)),false⟩] ((symC (⟨Try.prog,[(105,ctrVn 3 C_kS hardD)],[E_of Try.prog 57,E_of Try.prog 72],dkHo,Id'.one,60⟩:Sy Td) [] 19 (hdC (loopsC (bodyOf Try.f173)) 0) ⟨[(8,.c (.one (.v (.int .i64 i))))]++anyB' (writesC (hdC (loopsC (bodyOf Try.f173)) 0)) ([(0,.c (.one (.obj 0))),(1,.c (.fn 105 [.ptr 1 0])),(7,.c (.one (.v (.int .i64 (Y.length:Int)))))]++tabV f 19),[⟨.us (.ext (.flat (.rw 72 [false,false,false] Y))),false⟩,⟨.blk [.ptr 2 0],false⟩,⟨.bx [.obj 3],false⟩,⟨.us (.ext (.mp T)),false⟩],0⟩).al [true,true])=some qs∧∀ q∈qs,q:=
 ⟨[decide (i<(↑Y.length:Int))=true,(0:Int)≤i∧i.toNat<(FL.rw 72 [false,false,false] Y).n,(mdE T ((Y.getD i.toNat Rw.zero).is.getD (0:Nat) (0:Int)) ((Y.getD i.toNat Rw.zero).is.getD ((0:Nat)+(1:Nat)) (0:Int)) ((Y.getD i.toNat Rw.zero).is.getD ((0:Nat)+(1:Nat)+(1:Nat)) (0:Int))==(0:Int))=true,(Th.ext (Dk.flat (FL.rw 72 [false,false,false] Y)):Td)=Th.ext (Dk.flat (FL.rw 72 [false,false,false] Y)),(Th.ext (Dk.mp T):Td)=Th.ext (Dk.mp T),Value.int IntKind.i64 i=Value.int IntKind.i64 i2],by kernel_rfl,(by refine mcons ?_ (mcons ?_ (mcons ?_ (mcons ?_ (mcons ?_ (mcons ?_ mnil)))))<;>first|rfl|exact h0|exact h1|exact h2|exact h3|trivial|(exact congrArg _ h1)|(exact h2)|(exact pkW_no h3)|(exact pkW_yes h3))⟩
set_option maxRecDepth 100000 in
theorem ixS_lpR (Y:List Rw) (T:List ((Int×Int)×Int)) (e:Int) (hL:Y.length≤100000)  (he0:0≤e∧e.toNat<Y.length) (he1:pkW (hitS T) Y (e)=false) (he2:∀ i:Int,0≤i→i<e→pkW (hitS T) Y (i)=true) {W0:World} {G:Nat→Prop} (S0:Sy Td) (hS0:S0.P=Try.prog):LoopSound S0 Id' W0 G 19 (hdC (loopsC (bodyOf Try.f173)) 0) (lpG Id' 19 (hdC (loopsC (bodyOf Try.f173)) 0) 4 [(8,.c (.one (.v (.int .i64 ((0+0:Nat):Int)))))] [(0,.c (.one (.obj 0))),(1,.c (.fn 105 [.ptr 1 0])),(7,.c (.one (.v (.int .i64 (Y.length:Int)))))] [⟨.us (.ext (.flat (.rw 72 [false,false,false] Y))),false⟩,⟨.blk [.ptr 2 0],false⟩,⟨.bx [.obj 3],false⟩,⟨.us (.ext (.mp T)),false⟩] (.leaf .ret [(4,.c (.one (.v (.int .i64 e))))] [⟨.us (.ext (.flat (.rw 72 [false,false,false] Y))),false⟩,⟨.blk [.ptr 2 0],false⟩,⟨.bx [.obj 3],false⟩,⟨.us (.ext (.mp T)),false⟩])):=by
 refine lp_sound (V:=fun k=>[(8,.c (.one (.v (.int .i64 ((k+0:Nat):Int)))))]) (M:=(fun k=>[⟨.us (.ext (.flat (.rw 72 [false,false,false] Y))),false⟩,⟨.blk [.ptr 2 0],false⟩,⟨.bx [.obj 3],false⟩,⟨.us (.ext (.mp T)),false⟩]:Nat→Mem Td)) (N:=Y.length) (Ux:=fun k x=>match x with|.ret=>some ([(4,.c (.one (.v (.int .i64 e))))],([⟨.us (.ext (.flat (.rw 72 [false,false,false] Y))),false⟩,⟨.blk [.ptr 2 0],false⟩,⟨.bx [.obj 3],false⟩,⟨.us (.ext (.mp T)),false⟩]:Mem Td))|_=>none) (X:=fun _ _=>True) (J:=fun k=>((k+0:Nat):Int)≤e) (fun k=>by kernel_rfl) (by omega) (fun k hk hJ f=>?_) (fun K hK k x U hk hU hX=>?_)
 ·rw [hS0]
  cases hT:decide (((k+0:Nat):Int)<(Y.length:Int)) with
  |false=>
   have:=of_decide_eq_false hT
   omega
  |true=>
   have hk1:=of_decide_eq_true hT
   have hW:IntKind.i64.wrap (((k+0:Nat):Int)+1)=((k+1+0:Nat):Int):=by rw [IntWalk.i64_in _ (by omega)];omega
   cases hq:pkW (hitS T) Y (((k+0:Nat):Int)) with
   |true=>
    exact rnd_nD (⟨Try.prog,[(105,ctrVn 3 C_kS hardD)],[E_of Try.prog 57,E_of Try.prog 72],dkHo,Id'.one,60⟩:Sy Td) rfl ((fun (W0:World) (G:Nat→Prop)=>SyOk.mk2 Try.mixed dkHo_ok (FnsR.cons (RN_kS) (FnsR.nil)) (E_of_ok (by kernel_rfl) (E_of_ok (by kernel_rfl) (EqsOk.nil)))) W0 G) (ixS_n Y T ((k+0:Nat):Int) ((k+1+0:Nat):Int) k f hT hW (by omega) hq ) rfl rfl (by omega) (by
     rcases Int.lt_or_eq_of_le hJ with h|h
     ·omega
     ·rw [h,he1] at hq;cases hq)
   |false=>
    have hie:((k+0:Nat):Int)=e:=by
     rcases Int.lt_or_eq_of_le hJ with h|h
     ·rw [he2 _ (by omega) h] at hq;cases hq
     ·exact h
    exact rnd_rD (⟨Try.prog,[(105,ctrVn 3 C_kS hardD)],[E_of Try.prog 57,E_of Try.prog 72],dkHo,Id'.one,60⟩:Sy Td) rfl ((fun (W0:World) (G:Nat→Prop)=>SyOk.mk2 Try.mixed dkHo_ok (FnsR.cons (RN_kS) (FnsR.nil)) (E_of_ok (by kernel_rfl) (E_of_ok (by kernel_rfl) (EqsOk.nil)))) W0 G) (ixS_r Y T ((k+0:Nat):Int) e k f hT hie (by omega) hq ) rfl trivial
 ·revert hU
  match x with
  |.ret=>intro hU;simp only [Option.some.injEq] at hU;subst hU;exact hK
  |.normal=>intro hU;cases hU
  |.exit n=>intro hU;cases hU
set_option maxRecDepth 100000 in
theorem ixSA_w0 (Y:List Rw) (T:List ((Int×Int)×Int)) :∃ qs,wayV ((runFn (⟨Try.prog,[(105,ctrVn 3 C_kS hardD)],[E_of Try.prog 57,E_of Try.prog 72],dkHo,Id'.one,60⟩:Sy Td) [(2,(lpG Id' 19 (hdC (loopsC (bodyOf Try.f173)) 0) 4 [(8,.c (.one (.v (.int .i64 ((0+0:Nat):Int)))))] [(0,.c (.one (.obj 0))),(1,.c (.fn 105 [.ptr 1 0])),(7,.c (.one (.v (.int .i64 (Y.length:Int)))))] [⟨.us (.ext (.flat (.rw 72 [false,false,false] Y))),false⟩,⟨.blk [.ptr 2 0],false⟩,⟨.bx [.obj 3],false⟩,⟨.us (.ext (.mp T)),false⟩] (.leaf (.exit 0) [] [⟨.us (.ext (.flat (.rw 72 [false,false,false] Y))),false⟩,⟨.blk [.ptr 2 0],false⟩,⟨.bx [.obj 3],false⟩,⟨.us (.ext (.mp T)),false⟩])))] Try.f173 [.one (.obj 0),.fn 105 [.ptr 1 0]] (roM [⟨.us (.ext (.flat (.rw 72 [false,false,false] Y))),true⟩,⟨.blk [.ptr 2 0],false⟩,⟨.bx [.obj 3],true⟩,⟨.us (.ext (.mp T)),true⟩])).al []) (fun u=>u=.int .i64 (-1))=some qs∧∀ q∈qs,q:=
 ⟨[Value.int IntKind.i64 (Int.negSucc 0)=Value.int IntKind.i64 (Int.negSucc 0),Value.int IntKind.i64 (↑(FL.rw 72 [false,false,false] Y).n:Int)=Value.int IntKind.i64 (↑Y.length:Int),(Th.ext (Dk.flat (FL.rw 72 [false,false,false] Y)):Td)=Th.ext (Dk.flat (FL.rw 72 [false,false,false] Y)),(Th.ext (Dk.mp T):Td)=Th.ext (Dk.mp T),Value.int IntKind.i64 (Int.ofNat 0)=Value.int IntKind.i64 (Int.ofNat ((0:Nat)+(0:Nat)))],by kernel_rfl,(by refine mcons ?_ (mcons ?_ (mcons ?_ (mcons ?_ (mcons ?_ mnil))))<;>first|rfl|trivial)⟩
set_option maxRecDepth 100000 in
theorem ixSR_w0 (Y:List Rw) (T:List ((Int×Int)×Int)) (e:Int) :∃ qs,wayV ((runFn (⟨Try.prog,[(105,ctrVn 3 C_kS hardD)],[E_of Try.prog 57,E_of Try.prog 72],dkHo,Id'.one,60⟩:Sy Td) [(2,(lpG Id' 19 (hdC (loopsC (bodyOf Try.f173)) 0) 4 [(8,.c (.one (.v (.int .i64 ((0+0:Nat):Int)))))] [(0,.c (.one (.obj 0))),(1,.c (.fn 105 [.ptr 1 0])),(7,.c (.one (.v (.int .i64 (Y.length:Int)))))] [⟨.us (.ext (.flat (.rw 72 [false,false,false] Y))),false⟩,⟨.blk [.ptr 2 0],false⟩,⟨.bx [.obj 3],false⟩,⟨.us (.ext (.mp T)),false⟩] (.leaf .ret [(4,.c (.one (.v (.int .i64 e))))] [⟨.us (.ext (.flat (.rw 72 [false,false,false] Y))),false⟩,⟨.blk [.ptr 2 0],false⟩,⟨.bx [.obj 3],false⟩,⟨.us (.ext (.mp T)),false⟩])))] Try.f173 [.one (.obj 0),.fn 105 [.ptr 1 0]] (roM [⟨.us (.ext (.flat (.rw 72 [false,false,false] Y))),true⟩,⟨.blk [.ptr 2 0],false⟩,⟨.bx [.obj 3],true⟩,⟨.us (.ext (.mp T)),true⟩])).al []) (fun u=>u=.int .i64 e)=some qs∧∀ q∈qs,q:=
 ⟨[Value.int IntKind.i64 e=Value.int IntKind.i64 e,Value.int IntKind.i64 (↑(FL.rw 72 [false,false,false] Y).n:Int)=Value.int IntKind.i64 (↑Y.length:Int),(Th.ext (Dk.flat (FL.rw 72 [false,false,false] Y)):Td)=Th.ext (Dk.flat (FL.rw 72 [false,false,false] Y)),(Th.ext (Dk.mp T):Td)=Th.ext (Dk.mp T),Value.int IntKind.i64 (Int.ofNat 0)=Value.int IntKind.i64 (Int.ofNat ((0:Nat)+(0:Nat)))],by kernel_rfl,(by refine mcons ?_ (mcons ?_ (mcons ?_ (mcons ?_ (mcons ?_ mnil))))<;>first|rfl|trivial)⟩
def C_ixS:CtrV Td:=fun us sub=>match us,sub with
 |[.one (.obj 0),.fn 105 [.ptr 1 0]],[⟨.us (.ext (.flat (.rw 72 [false,false,false] Y))),false⟩,⟨.blk [.ptr 2 0],false⟩,⟨.bx [.obj 3],false⟩,⟨.us (.ext (.mp T)),false⟩]=>some ([Y.length≤100000],.int .i64 (fstI Y.length (pkW (hitS T) Y)))
 |_,_=>none
set_option maxRecDepth 100000 in
theorem C_ixS_ok:CtrVOk Try.prog Id' 173 C_ixS:=by
 intro us sub ps x h hp w e vs hM ha
 unfold C_ixS at h
 split at h
 ·rename_i Y T
  simp only [Option.some.injEq,Prod.mk.injEq] at h
  obtain ⟨rfl,rfl⟩:=h
  have hL:Y.length≤100000:=hp _ (List.mem_cons_self ..)
  rcases fst_cases Y.length (pkW (hitS T) Y) with ⟨hv,hall⟩|⟨h1,h2,h3,h4⟩
  ·rw [hv]
   exact ctrv_way (I:=Id') (fun (W0:World) (G:Nat→Prop)=>SyOk.mk2 Try.mixed dkHo_ok (FnsR.cons (RN_kS) (FnsR.nil)) (E_of_ok (by kernel_rfl) (E_of_ok (by kernel_rfl) (EqsOk.nil)))) rfl Try.func173 (by kernel_rfl) (fun W0 G=>LpsOk.cons (by kernel_rfl) (ixS_lpA Y T hL hall _ rfl) (LpsOk.nil _)) (cs:=[]) (by kernel_rfl) (ixSA_w0 Y T ) w e vs hM ha
  ·exact ctrv_way (I:=Id') (fun (W0:World) (G:Nat→Prop)=>SyOk.mk2 Try.mixed dkHo_ok (FnsR.cons (RN_kS) (FnsR.nil)) (E_of_ok (by kernel_rfl) (E_of_ok (by kernel_rfl) (EqsOk.nil)))) rfl Try.func173 (by kernel_rfl) (fun W0 G=>LpsOk.cons (by kernel_rfl) (ixS_lpR Y T _ hL ⟨h1,h2⟩ h3 h4 _ rfl) (LpsOk.nil _)) (cs:=[]) (by kernel_rfl) (ixSR_w0 Y T _ ) w e vs hM ha
 ·cases h
theorem RN_ixS:RowOk Try.prog Id' hardD 173 (ctrVn 3 C_ixS hardD):=ctrVn_ok 3 Try.call173 C_ixS_ok
end Go.Proofs.Ytdenmoiaiemokaa
set_option linter.unusedVariables false
set_option linter.unusedSimpArgs false
namespace Go.Proofs.Ytdenmoiaiemokaa
open Go.RowKit
set_option maxRecDepth 100000 in
theorem dfS_n1 (X Y:List Rw) (T:List ((Int×Int)×Int)) (i i2 j j2:Int) (k:Nat) (f:Nat→Value) (h0:decide (j<(X.length:Int))=true) (h1:0≤j∧j.toNat<X.length) (h2:(!(hitS T (X.getD j.toNat Rw.zero)))=true) (h3:0≤i∧i.toNat<X.length) (h4:X.set i.toNat (nr3 (X.getD j.toNat Rw.zero))=Y) (h5:IntKind.i64.wrap (j+1)=j2) (h6:IntKind.i64.wrap (i+1)=i2):∃ qs,alN Id' 4 [(6,.c (.one (.v (.int .i64 j2)))),(5,.c (.one (.v (.int .i64 i2))))] [⟨.us (.ext (.flat (.rw 72 [false,false,false] Y))),true⟩,⟨.blk [.ptr 2 0],false⟩,⟨.bx [.obj 3],true⟩,⟨.us (.ext (.mp T)),true⟩] ((symC (⟨Try.prog,[(105,ctrVn 3 C_kS hardD)],[E_of Try.prog 57,E_of Try.prog 72],dkHo,Id'.one,60⟩:Sy Td) [] 42 (hdC (loopsC (bodyOf Try.f151)) 0) ⟨[(6,.c (.one (.v (.int .i64 j)))),(5,.c (.one (.v (.int .i64 i))))]++anyB' (writesC (hdC (loopsC (bodyOf Try.f151)) 0)) ([(0,.c (.one (.obj 0))),(1,.c (.fn 105 [.ptr 1 0]))]++tabV f 42),[⟨.us (.ext (.flat (.rw 72 [false,false,false] X))),true⟩,⟨.blk [.ptr 2 0],false⟩,⟨.bx [.obj 3],true⟩,⟨.us (.ext (.mp T)),true⟩],0⟩).al [true,true])=some qs∧∀ q∈qs,q:=
 ⟨[decide (j<(↑(FL.rw 72 [false,false,false] X).n:Int))=true,(0:Int)≤j∧j.toNat<(FL.rw 72 [false,false,false] X).n,(!mdE T ((X.getD j.toNat Rw.zero).is.getD (0:Nat) (0:Int)) ((X.getD j.toNat Rw.zero).is.getD ((0:Nat)+(1:Nat)) (0:Int)) ((X.getD j.toNat Rw.zero).is.getD ((0:Nat)+(1:Nat)+(1:Nat)) (0:Int))==(0:Int))=true,(0:Int)≤i∧i.toNat<(FL.rw 72 [false,false,false] X).n,(Th.ext (Dk.flat (FL.rw 72 [false,false,false] (X.set i.toNat (nr3 (X.getD j.toNat Rw.zero))))):Td)=Th.ext (Dk.flat (FL.rw 72 [false,false,false] Y)),(Th.ext (Dk.mp T):Td)=Th.ext (Dk.mp T),Value.int IntKind.i64 (IntKind.i64.wrap (j+(1:Int)))=Value.int IntKind.i64 j2,Value.int IntKind.i64 (IntKind.i64.wrap (i+(1:Int)))=Value.int IntKind.i64 i2],by kernel_rfl,(by refine mcons ?_ (mcons ?_ (mcons ?_ (mcons ?_ (mcons ?_ (mcons ?_ (mcons ?_ (mcons ?_ mnil)))))))<;>first|rfl|exact h0|exact h1|exact h2|exact h3|exact h4|exact h5|exact h6|trivial|(exact congrArg (fun x=>(Th.ext (Dk.flat (FL.rw 72 [false,false,false] x)):Td)) h4)|(exact congrArg (Value.int .i64) h5)|(exact congrArg (Value.int .i64) h6))⟩
set_option maxRecDepth 100000 in
theorem dfS_n0 (X:List Rw) (T:List ((Int×Int)×Int)) (i j j2:Int) (k:Nat) (f:Nat→Value) (h0:decide (j<(X.length:Int))=true) (h1:0≤j∧j.toNat<X.length) (h2:(!(hitS T (X.getD j.toNat Rw.zero)))=false) (h3:IntKind.i64.wrap (j+1)=j2):∃ qs,alN Id' 4 [(6,.c (.one (.v (.int .i64 j2)))),(5,.c (.one (.v (.int .i64 i))))] [⟨.us (.ext (.flat (.rw 72 [false,false,false] X))),true⟩,⟨.blk [.ptr 2 0],false⟩,⟨.bx [.obj 3],true⟩,⟨.us (.ext (.mp T)),true⟩] ((symC (⟨Try.prog,[(105,ctrVn 3 C_kS hardD)],[E_of Try.prog 57,E_of Try.prog 72],dkHo,Id'.one,60⟩:Sy Td) [] 42 (hdC (loopsC (bodyOf Try.f151)) 0) ⟨[(6,.c (.one (.v (.int .i64 j)))),(5,.c (.one (.v (.int .i64 i))))]++anyB' (writesC (hdC (loopsC (bodyOf Try.f151)) 0)) ([(0,.c (.one (.obj 0))),(1,.c (.fn 105 [.ptr 1 0]))]++tabV f 42),[⟨.us (.ext (.flat (.rw 72 [false,false,false] X))),true⟩,⟨.blk [.ptr 2 0],false⟩,⟨.bx [.obj 3],true⟩,⟨.us (.ext (.mp T)),true⟩],0⟩).al [true,false])=some qs∧∀ q∈qs,q:=
 ⟨[decide (j<(↑(FL.rw 72 [false,false,false] X).n:Int))=true,(0:Int)≤j∧j.toNat<(FL.rw 72 [false,false,false] X).n,(!mdE T ((X.getD j.toNat Rw.zero).is.getD (0:Nat) (0:Int)) ((X.getD j.toNat Rw.zero).is.getD ((0:Nat)+(1:Nat)) (0:Int)) ((X.getD j.toNat Rw.zero).is.getD ((0:Nat)+(1:Nat)+(1:Nat)) (0:Int))==(0:Int))=false,(Th.ext (Dk.flat (FL.rw 72 [false,false,false] X)):Td)=Th.ext (Dk.flat (FL.rw 72 [false,false,false] X)),(Th.ext (Dk.mp T):Td)=Th.ext (Dk.mp T),Value.int IntKind.i64 (IntKind.i64.wrap (j+(1:Int)))=Value.int IntKind.i64 j2,Value.int IntKind.i64 i=Value.int IntKind.i64 i],by kernel_rfl,(by refine mcons ?_ (mcons ?_ (mcons ?_ (mcons ?_ (mcons ?_ (mcons ?_ (mcons ?_ mnil))))))<;>first|rfl|exact h0|exact h1|exact h2|exact h3|trivial|(exact congrArg (Value.int .i64) h3))⟩
set_option maxRecDepth 100000 in
theorem dfS_x (X:List Rw) (T:List ((Int×Int)×Int)) (i j:Int) (k:Nat) (f:Nat→Value) (h0:decide (j<(X.length:Int))=false):∃ qs,alX Id' 4 0 [(5,.c (.one (.v (.int .i64 i))))] [⟨.us (.ext (.flat (.rw 72 [false,false,false] X))),true⟩,⟨.blk [.ptr 2 0],false⟩,⟨.bx [.obj 3],true⟩,⟨.us (.ext (.mp T)),true⟩] ((symC (⟨Try.prog,[(105,ctrVn 3 C_kS hardD)],[E_of Try.prog 57,E_of Try.prog 72],dkHo,Id'.one,60⟩:Sy Td) [] 42 (hdC (loopsC (bodyOf Try.f151)) 0) ⟨[(6,.c (.one (.v (.int .i64 j)))),(5,.c (.one (.v (.int .i64 i))))]++anyB' (writesC (hdC (loopsC (bodyOf Try.f151)) 0)) ([(0,.c (.one (.obj 0))),(1,.c (.fn 105 [.ptr 1 0]))]++tabV f 42),[⟨.us (.ext (.flat (.rw 72 [false,false,false] X))),true⟩,⟨.blk [.ptr 2 0],false⟩,⟨.bx [.obj 3],true⟩,⟨.us (.ext (.mp T)),true⟩],0⟩).al [false])=some qs∧∀ q∈qs,q:=
 ⟨[decide (j<(↑(FL.rw 72 [false,false,false] X).n:Int))=false,(Th.ext (Dk.flat (FL.rw 72 [false,false,false] X)):Td)=Th.ext (Dk.flat (FL.rw 72 [false,false,false] X)),(Th.ext (Dk.mp T):Td)=Th.ext (Dk.mp T),Value.int IntKind.i64 i=Value.int IntKind.i64 i],by kernel_rfl,(by refine mcons ?_ (mcons ?_ (mcons ?_ (mcons ?_ mnil)))<;>first|rfl|exact h0|trivial)⟩
set_option maxRecDepth 100000 in
theorem dfS_lp (Q:List Rw) (T:List ((Int×Int)×Int)) (i0:Nat) (hR:Q.length≤100000) (hi:i0<Q.length) {W0:World} {G:Nat→Prop} (S0:Sy Td) (hS0:S0.P=Try.prog):LoopSound S0 Id' W0 G 42 (hdC (loopsC (bodyOf Try.f151)) 0) (lpG Id' 42 (hdC (loopsC (bodyOf Try.f151)) 0) 4 [(6,.c (.one (.v (.int .i64 ((i0+1+0:Nat):Int))))),(5,.c (.one (.v (.int .i64 (i0:Int)))))] [(0,.c (.one (.obj 0))),(1,.c (.fn 105 [.ptr 1 0]))] [⟨.us (.ext (.flat (.rw 72 [false,false,false] Q))),true⟩,⟨.blk [.ptr 2 0],false⟩,⟨.bx [.obj 3],true⟩,⟨.us (.ext (.mp T)),true⟩] (.leaf (.exit 0) [(5,.c (.one (.v (.int .i64 ((dlW (hitS T) Q i0 (Q.length - (i0+1))).2:Int)))))] [⟨.us (.ext (.flat (.rw 72 [false,false,false] (dlW (hitS T) Q i0 (Q.length - (i0+1))).1))),true⟩,⟨.blk [.ptr 2 0],false⟩,⟨.bx [.obj 3],true⟩,⟨.us (.ext (.mp T)),true⟩])):=by
 refine lp_sound (V:=fun k=>[(6,.c (.one (.v (.int .i64 ((i0+1+k:Nat):Int))))),(5,.c (.one (.v (.int .i64 ((dlW (hitS T) Q i0 k).2:Int)))))]) (M:=(fun k=>[⟨.us (.ext (.flat (.rw 72 [false,false,false] (dlW (hitS T) Q i0 k).1))),true⟩,⟨.blk [.ptr 2 0],false⟩,⟨.bx [.obj 3],true⟩,⟨.us (.ext (.mp T)),true⟩]:Nat→Mem Td)) (N:=Q.length - (i0+1)) (Ux:=fun k x=>match x with|.exit 0=>some ([(5,.c (.one (.v (.int .i64 ((dlW (hitS T) Q i0 (Q.length - (i0+1))).2:Int)))))],([⟨.us (.ext (.flat (.rw 72 [false,false,false] (dlW (hitS T) Q i0 (Q.length - (i0+1))).1))),true⟩,⟨.blk [.ptr 2 0],false⟩,⟨.bx [.obj 3],true⟩,⟨.us (.ext (.mp T)),true⟩]:Mem Td))|_=>none) (X:=fun _ _=>True) (J:=fun k=>k≤Q.length - (i0+1)) (fun k=>by kernel_rfl) (Nat.zero_le _) (fun k hk hJ f=>?_) (fun K hK k x U hk hU hX=>?_)
 ·rw [hS0]
  obtain ⟨hl1,hl2⟩:=dlW_len (hitS T) Q i0 k
  cases hT:decide (((i0+1+k:Nat):Int)<((dlW (hitS T) Q i0 k).1.length:Int)) with
  |false=>
   have hke:k=Q.length - (i0+1):=by have:=of_decide_eq_false hT;omega
   subst hke
   exact rnd_xD (⟨Try.prog,[(105,ctrVn 3 C_kS hardD)],[E_of Try.prog 57,E_of Try.prog 72],dkHo,Id'.one,60⟩:Sy Td) rfl ((fun (W0:World) (G:Nat→Prop)=>SyOk.mk2 Try.mixed dkHo_ok (FnsR.cons (RN_kS) (FnsR.nil)) (E_of_ok (by kernel_rfl) (E_of_ok (by kernel_rfl) (EqsOk.nil)))) W0 G) (dfS_x (dlW (hitS T) Q i0 (Q.length - (i0+1))).1 T _ _ (Q.length - (i0+1)) f hT) rfl trivial
  |true=>
   have hk1:=of_decide_eq_true hT
   have hW:IntKind.i64.wrap (((i0+1+k:Nat):Int)+1)=((i0+1+(k+1):Nat):Int):=by rw [IntWalk.i64_in _ (by omega)];omega
   cases hq:(!(hitS T ((dlW (hitS T) Q i0 k).1.getD (((i0+1+k:Nat):Int)).toNat Rw.zero))) with
   |true=>
    have hq2:(!(hitS T ((dlW (hitS T) Q i0 k).1.getD (i0+1+k) Rw.zero)))=true:=hq
    have hst:(dlW (hitS T) Q i0 (k+1))=((dlW (hitS T) Q i0 k).1.set (dlW (hitS T) Q i0 k).2 (nr3 ((dlW (hitS T) Q i0 k).1.getD (i0+1+k) Rw.zero)),(dlW (hitS T) Q i0 k).2+1):=by rw [dlW,hq2];rfl
    have hW2:IntKind.i64.wrap (((dlW (hitS T) Q i0 k).2:Int)+1)=((dlW (hitS T) Q i0 (k+1)).2:Int):=by rw [hst,IntWalk.i64_in _ (by omega)];show _=(((dlW (hitS T) Q i0 k).2+1:Nat):Int);omega
    exact rnd_nD (⟨Try.prog,[(105,ctrVn 3 C_kS hardD)],[E_of Try.prog 57,E_of Try.prog 72],dkHo,Id'.one,60⟩:Sy Td) rfl ((fun (W0:World) (G:Nat→Prop)=>SyOk.mk2 Try.mixed dkHo_ok (FnsR.cons (RN_kS) (FnsR.nil)) (E_of_ok (by kernel_rfl) (E_of_ok (by kernel_rfl) (EqsOk.nil)))) W0 G) (dfS_n1 (dlW (hitS T) Q i0 k).1 (dlW (hitS T) Q i0 (k+1)).1 T _ _ _ _ k f hT ⟨by omega,by omega⟩ hq ⟨by omega,by omega⟩ (by rw [hst];rfl) hW hW2) rfl rfl (by omega) (by omega)
   |false=>
    have hq2:(!(hitS T ((dlW (hitS T) Q i0 k).1.getD (i0+1+k) Rw.zero)))=false:=hq
    have hst:(dlW (hitS T) Q i0 (k+1))=(dlW (hitS T) Q i0 k):=by rw [dlW,hq2];rfl
    have hn:=dfS_n0 (dlW (hitS T) Q i0 k).1 T ((dlW (hitS T) Q i0 k).2:Int) _ _ k f hT ⟨by omega,by omega⟩ hq hW
    refine rnd_nD (⟨Try.prog,[(105,ctrVn 3 C_kS hardD)],[E_of Try.prog 57,E_of Try.prog 72],dkHo,Id'.one,60⟩:Sy Td) rfl ((fun (W0:World) (G:Nat→Prop)=>SyOk.mk2 Try.mixed dkHo_ok (FnsR.cons (RN_kS) (FnsR.nil)) (E_of_ok (by kernel_rfl) (E_of_ok (by kernel_rfl) (EqsOk.nil)))) W0 G) (by rw [hst];exact hn) rfl rfl (by omega) (by omega)
 ·revert hU
  match x with
  |.exit 0=>intro hU;simp only [Option.some.injEq] at hU;subst hU;exact hK
  |.normal=>intro hU;cases hU
  |.ret=>intro hU;cases hU
  |.exit (n+1)=>intro hU;cases hU
set_option maxRecDepth 100000 in
theorem dfSA_w0 (Q:List Rw) (T:List ((Int×Int)×Int)) (h0:Q.length≤100000) (h1:(fstI Q.length (pkW (hitS T) Q)==(-1:Int))=true):∃ qs,wayO Id' ([⟨.us (.ext (.flat (.rw 72 [false,false,false] Q))),true⟩,⟨.blk [.ptr 2 0],false⟩,⟨.bx [.obj 3],true⟩,⟨.us (.ext (.mp T)),true⟩]:Mem Td).length [⟨.us (.ext (.flat (.rw 72 [false,false,false] Q))),true⟩,⟨.blk [.ptr 2 0],false⟩,⟨.bx [.obj 3],true⟩,⟨.us (.ext (.mp T)),true⟩] (.c (.one (.obj 0))) ((runFn (⟨Try.prog,[(173,ctrVn 3 C_ixS hardD),(105,ctrVn 3 C_kS hardD)],[E_of Try.prog 57,E_of Try.prog 72],dkHo,Id'.one,60⟩:Sy Td) [] Try.f151 [.one (.obj 0),.fn 105 [.ptr 1 0]] [⟨.us (.ext (.flat (.rw 72 [false,false,false] Q))),true⟩,⟨.blk [.ptr 2 0],false⟩,⟨.bx [.obj 3],true⟩,⟨.us (.ext (.mp T)),true⟩]).al [true])=some qs∧∀ q∈qs,q:=
 ⟨[Q.length≤(100000:Nat),(fstI Q.length (pkW (hitS T) Q)==(-1:Int))=true,(Th.ext (Dk.flat (FL.rw 72 [false,false,false] Q)):Td)=Th.ext (Dk.flat (FL.rw 72 [false,false,false] Q)),(Th.ext (Dk.mp T):Td)=Th.ext (Dk.mp T)],by kernel_rfl,(by refine mcons ?_ (mcons ?_ (mcons ?_ (mcons ?_ mnil)))<;>first|rfl|exact h0|exact h1|trivial)⟩
set_option maxRecDepth 100000 in
theorem dfSB_w0 (Q:List Rw) (T:List ((Int×Int)×Int)) (i0:Nat) (h0:Q.length≤100000) (h1:(fstI Q.length (pkW (hitS T) Q)==(-1:Int))=false) (h2:IntKind.i64.wrap (fstI Q.length (pkW (hitS T) Q)+1)=((i0+1+0:Nat):Int)) (h3:fstI Q.length (pkW (hitS T) Q)=(i0:Int)) (h4:(0:Int)≤((dlW (hitS T) Q i0 (Q.length - (i0+1))).2:Int)∧((dlW (hitS T) Q i0 (Q.length - (i0+1))).2:Int)≤((dlW (hitS T) Q i0 (Q.length - (i0+1))).1.length:Int)∧((dlW (hitS T) Q i0 (Q.length - (i0+1))).1.length:Int)≤((dlW (hitS T) Q i0 (Q.length - (i0+1))).1.length:Int)) (h5:(0:Int)≤(0:Int)∧(0:Int)≤((dlW (hitS T) Q i0 (Q.length - (i0+1))).2:Int)∧((dlW (hitS T) Q i0 (Q.length - (i0+1))).2:Int)≤(((dlW (hitS T) Q i0 (Q.length - (i0+1))).1.take (dlW (hitS T) Q i0 (Q.length - (i0+1))).2++List.replicate ((dlW (hitS T) Q i0 (Q.length - (i0+1))).1.length - (dlW (hitS T) Q i0 (Q.length - (i0+1))).2) Rw.zero).length:Int)):∃ qs,wayO Id' ([⟨.us (.ext (.flat (.rw 72 [false,false,false] Q))),true⟩,⟨.blk [.ptr 2 0],false⟩,⟨.bx [.obj 3],true⟩,⟨.us (.ext (.mp T)),true⟩]:Mem Td).length [⟨.us (.ext (.flat (.rw 72 [false,false,false] ((dlW (hitS T) Q i0 (Q.length - (i0+1))).1.take (dlW (hitS T) Q i0 (Q.length - (i0+1))).2++List.replicate ((dlW (hitS T) Q i0 (Q.length - (i0+1))).1.length - (dlW (hitS T) Q i0 (Q.length - (i0+1))).2) Rw.zero)))),true⟩,⟨.blk [.ptr 2 0],false⟩,⟨.bx [.obj 3],true⟩,⟨.us (.ext (.mp T)),true⟩] (.c (.one (.sub 0 3 0 (dlW (hitS T) Q i0 (Q.length - (i0+1))).2))) ((runFn (⟨Try.prog,[(173,ctrVn 3 C_ixS hardD),(105,ctrVn 3 C_kS hardD)],[E_of Try.prog 57,E_of Try.prog 72],dkHo,Id'.one,60⟩:Sy Td) [(5,(lpG Id' 42 (hdC (loopsC (bodyOf Try.f151)) 0) 4 [(6,.c (.one (.v (.int .i64 ((i0+1+0:Nat):Int))))),(5,.c (.one (.v (.int .i64 (i0:Int)))))] [(0,.c (.one (.obj 0))),(1,.c (.fn 105 [.ptr 1 0]))] [⟨.us (.ext (.flat (.rw 72 [false,false,false] Q))),true⟩,⟨.blk [.ptr 2 0],false⟩,⟨.bx [.obj 3],true⟩,⟨.us (.ext (.mp T)),true⟩] (.leaf (.exit 0) [(5,.c (.one (.v (.int .i64 ((dlW (hitS T) Q i0 (Q.length - (i0+1))).2:Int)))))] [⟨.us (.ext (.flat (.rw 72 [false,false,false] (dlW (hitS T) Q i0 (Q.length - (i0+1))).1))),true⟩,⟨.blk [.ptr 2 0],false⟩,⟨.bx [.obj 3],true⟩,⟨.us (.ext (.mp T)),true⟩])))] Try.f151 [.one (.obj 0),.fn 105 [.ptr 1 0]] [⟨.us (.ext (.flat (.rw 72 [false,false,false] Q))),true⟩,⟨.blk [.ptr 2 0],false⟩,⟨.bx [.obj 3],true⟩,⟨.us (.ext (.mp T)),true⟩]).al [false])=some qs∧∀ q∈qs,q:=
 ⟨[Q.length≤(100000:Nat),(fstI Q.length (pkW (hitS T) Q)==(-1:Int))=false,(Th.ext (Dk.flat (FL.rw 72 [false,false,false] Q)):Td)=Th.ext (Dk.flat (FL.rw 72 [false,false,false] Q)),(Th.ext (Dk.mp T):Td)=Th.ext (Dk.mp T),Value.int IntKind.i64 (IntKind.i64.wrap (fstI Q.length (pkW (hitS T) Q)+(1:Int)))=Value.int IntKind.i64 (↑(i0+(1:Nat)+(0:Nat)):Int),Value.int IntKind.i64 (fstI Q.length (pkW (hitS T) Q))=Value.int IntKind.i64 (↑i0:Int),(↑(dlW (hitS T) Q i0 (Q.length - (i0+(1:Nat)))).fst.length:Int).toNat=(dlW (hitS T) Q i0 (Q.length - (i0+(1:Nat)))).fst.length,(0:Int)≤(↑(dlW (hitS T) Q i0 (Q.length - (i0+(1:Nat)))).snd:Int)∧(↑(dlW (hitS T) Q i0 (Q.length - (i0+(1:Nat)))).snd:Int)≤(↑(dlW (hitS T) Q i0 (Q.length - (i0+(1:Nat)))).fst.length:Int)∧(↑(dlW (hitS T) Q i0 (Q.length - (i0+(1:Nat)))).fst.length:Int)≤(↑(dlW (hitS T) Q i0 (Q.length - (i0+(1:Nat)))).fst.length:Int),(0:Int)≤(0:Int)∧(0:Int)≤(↑(dlW (hitS T) Q i0 (Q.length - (i0+(1:Nat)))).snd:Int)∧(↑(dlW (hitS T) Q i0 (Q.length - (i0+(1:Nat)))).snd:Int)≤(↑(List.take (↑(dlW (hitS T) Q i0 (Q.length - (i0+(1:Nat)))).snd:Int).toNat (dlW (hitS T) Q i0 (Q.length - (i0+(1:Nat)))).fst++List.replicate ((↑(dlW (hitS T) Q i0 (Q.length - (i0+(1:Nat)))).fst.length:Int).toNat - (↑(dlW (hitS T) Q i0 (Q.length - (i0+(1:Nat)))).snd:Int).toNat) Rw.zero).length:Int),(Th.ext (Dk.flat (FL.rw 72 [false,false,false] ((dlW (hitS T) Q i0 (Q.length - (i0+1))).1.take (dlW (hitS T) Q i0 (Q.length - (i0+1))).2++List.replicate ((dlW (hitS T) Q i0 (Q.length - (i0+1))).1.length - (dlW (hitS T) Q i0 (Q.length - (i0+1))).2) Rw.zero))):Td)=Th.ext (Dk.flat (FL.rw 72 [false,false,false] ((dlW (hitS T) Q i0 (Q.length - (i0+1))).1.take (dlW (hitS T) Q i0 (Q.length - (i0+1))).2++List.replicate ((dlW (hitS T) Q i0 (Q.length - (i0+1))).1.length - (dlW (hitS T) Q i0 (Q.length - (i0+1))).2) Rw.zero))),(Th.ext (Dk.mp T):Td)=Th.ext (Dk.mp T),(3:Nat)=[false,false,false].length∧(0:Nat)=Int.toNat (0:Int)∧(dlW (hitS T) Q i0 (Q.length - (i0+(1:Nat)))).snd=(↑(dlW (hitS T) Q i0 (Q.length - (i0+(1:Nat)))).snd:Int).toNat],by kernel_rfl,(by refine mcons ?_ (mcons ?_ (mcons ?_ (mcons ?_ (mcons ?_ (mcons ?_ (mcons ?_ (mcons ?_ (mcons ?_ (mcons ?_ (mcons ?_ (mcons ?_ mnil)))))))))))<;>first|rfl|exact h0|exact h1|exact h2|exact h3|exact h4|exact h5|trivial|(exact congrArg (Value.int .i64) h2)|(exact congrArg (Value.int .i64) h3)|(exact ⟨rfl,rfl,rfl⟩))⟩
def C_dfS:Ctr Td:=fun us sub=>match us,sub with
 |[.one (.obj 0),.fn f [.ptr 1 0]],[⟨.us (.ext (.flat (.rw t [false,false,false] Q))),true⟩,⟨.blk [.ptr 2 0],false⟩,⟨.bx [.obj 3],true⟩,⟨.us (.ext (.mp T)),true⟩]=>(match eqb f 105&&eqb t 72 with
  |true=>some ([Q.length≤100000,Q.map nr3=Q],.c (.one (.obj 4)),[⟨.dead,true⟩,⟨.blk [.ptr 2 0],false⟩,⟨.bx [.obj 3],true⟩,⟨.us (.ext (.mp T)),true⟩,⟨.us (.ext (.flat (.rw 72 [false,false,false] (Q.filter fun r=>!hitS T r)))),true⟩])
  |false=>none)
 |_,_=>none
set_option maxRecDepth 100000 in
theorem C_dfS_ok:CtrOk Try.prog Id' 151 C_dfS:=by
 intro us sub ps x sm h hp w e vs hM ha
 unfold C_dfS at h
 split at h
 ·rename_i f t Q T
  split at h
  ·rename_i hb
   rw [Bool.and_eq_true] at hb
   obtain rfl:=eqb_eq.1 hb.1
   obtain rfl:=eqb_eq.1 hb.2
   simp only [Option.some.injEq,Prod.mk.injEq] at h
   obtain ⟨rfl,rfl,rfl⟩:=h
   have hL:Q.length≤100000:=hp _ (List.mem_cons_self ..)
   have hn:Q.map nr3=Q:=hp _ (List.mem_cons_of_mem _ (List.mem_cons_self ..))
   have hend:∀ {e':Env} {v:Value} {w':World} {m:Mem Td} {G:Nat→Prop},MemOk w G Id' w' e' m→m.length=4→(e'++[v])[4]? =some v:=fun hM' hl=>by
    rw [List.getElem?_append_right (by rw [hM'.len];omega),hM'.len,hl];rfl
   rcases fst_cases Q.length (pkW (hitS T) Q) with ⟨hv,hall⟩|⟨h1,h2,h3,h4⟩
   ·refine (ctr_way (I:=Id') (fun (W0:World) (G:Nat→Prop)=>SyOk.mk2 Try.mixed dkHo_ok (FnsR.cons (RN_ixS) (FnsR.cons (RN_kS) (FnsR.nil))) (E_of_ok (by kernel_rfl) (E_of_ok (by kernel_rfl) (EqsOk.nil)))) rfl Try.func151 (by kernel_rfl) (fun W0 G=>LpsOk.nil _) (cs:=[true]) (by kernel_rfl) (dfSA_w0 Q T hL (by rw [hv];rfl)) w e vs hM ha).mono fun y w' ⟨v,e',g1,g2,g3,g4⟩=>⟨v,e'++[v],g1,g2.trans (Grows.push e' v),hend g4 rfl,?_⟩
    have g5:=own_front (u:=undef) g4 (i:=0) rfl (own_self g4 (i:=0) rfl g3)
    rw [List.take_of_length_le (Nat.le_refl _)] at g5
    rw [dlW_all hall]
    exact g5
   ·obtain ⟨i0,hi0⟩:∃ i0:Nat,fstI Q.length (pkW (hitS T) Q)=(i0:Int):=⟨_,(Int.toNat_of_nonneg h1).symm⟩
    have hi:i0<Q.length:=by rw [hi0] at h2;simpa using h2
    obtain ⟨l1,l2⟩:=dlW_len (hitS T) Q i0 (Q.length - (i0+1))
    have hk:=(dlW_inv (hitS T) Q i0 hn hi (by rw [hi0] at h3;exact pkW_yes h3) (fun q hq=>by have:=pkW_no (h4 (q:Int) (by omega) (by omega));exact this) (Q.length - (i0+1)) (by omega)).1
    rw [List.take_of_length_le (l:=Q) (by omega)] at hk
    refine (ctr_way (I:=Id') (fun (W0:World) (G:Nat→Prop)=>SyOk.mk2 Try.mixed dkHo_ok (FnsR.cons (RN_ixS) (FnsR.cons (RN_kS) (FnsR.nil))) (E_of_ok (by kernel_rfl) (E_of_ok (by kernel_rfl) (EqsOk.nil)))) rfl Try.func151 (by kernel_rfl) (fun W0 G=>LpsOk.cons (by kernel_rfl) (dfS_lp Q T i0 hL hi _ rfl) (LpsOk.nil _)) (cs:=[false]) (by kernel_rfl) (dfSB_w0 Q T i0 hL (beq_eq_false_iff_ne.2 (by omega)) (by rw [hi0,IntWalk.i64_in _ (by omega)];omega) hi0 ⟨by omega,by omega,by omega⟩ ⟨Int.le_refl _,by omega,by rw [List.length_append,List.length_take,List.length_replicate];omega⟩) w e vs hM ha).mono fun y w' ⟨v,e',g1,g2,g3,g4⟩=>⟨v,e'++[v],g1,g2.trans (Grows.push e' v),hend g4 rfl,?_⟩
    have g5:=own_front (u:=undef) g4 (i:=0) rfl g3
    rw [List.take_append_of_le_length (by rw [List.length_take];omega),List.take_take,Nat.min_self,hk] at g5
    exact g5
  ·cases h
 ·cases h
theorem R_dfS:RowOk Try.prog Id' hardD 151 (ctrF Id' C_dfS hardD):=ctrF_ok Try.call151 C_dfS_ok
end Go.Proofs.Ytdenmoiaiemokaa
set_option linter.unusedVariables false
set_option linter.unusedSimpArgs false
namespace Go.Proofs.Ytdenmoiaiemokaa
open Go.RowKit
def C_woD:Ctr Td:=fun us sub=>match us,sub with
 |[.one (.ptr 0 0),.fn 108 [.ptr 1 0,.ptr 2 0]],[⟨.bx [.obj 3],true⟩,⟨.blk [.v (.int .i64 a),.v (.int .i64 b)],false⟩,⟨.blk [.v (.int .i64 c)],false⟩,⟨.us (.ext (.flat (.rw 72 [false,false,false] Q))),true⟩]=>some ([Q.length≤100000,Q.map nr3=Q],.c (.one (.v (.int .i64 (IntKind.i64.wrap ((Q.length:Int) - ((Q.filter fun r=>!hitD a b c r).length:Int)))))),[⟨.bx [.obj 4],true⟩,⟨.blk [.v (.int .i64 a),.v (.int .i64 b)],false⟩,⟨.blk [.v (.int .i64 c)],false⟩,⟨.dead,true⟩,⟨.us (.ext (.flat (.rw 72 [false,false,false] (Q.filter fun r=>!hitD a b c r)))),true⟩])
 |_,_=>none
set_option maxRecDepth 100000 in
theorem woS_w0 (Q:List Rw) (T:List ((Int×Int)×Int)) (h0:Q.length≤100000) (h1:Q.map nr3=Q):∃ qs,wayO Id' ([⟨.bx [.obj 2],true⟩,⟨.blk [.ptr 3 0],false⟩,⟨.us (.ext (.flat (.rw 72 [false,false,false] Q))),true⟩,⟨.bx [.obj 4],true⟩,⟨.us (.ext (.mp T)),true⟩]:Mem Td).length [⟨.bx [.obj 5],true⟩,⟨.blk [.ptr 3 0],false⟩,⟨.dead,true⟩,⟨.bx [.obj 4],true⟩,⟨.us (.ext (.mp T)),true⟩,⟨.us (.ext (.flat (.rw 72 [false,false,false] (Q.filter fun r=>!hitS T r)))),true⟩] (.c (.one (.v (.int .i64 (IntKind.i64.wrap ((Q.length:Int) - ((Q.filter fun r=>!hitS T r).length:Int))))))) ((runFn (⟨Try.prog,[(151,ctrF Id' C_dfS hardD)],[E_of Try.prog 57,E_of Try.prog 72],dkHo,Id'.one,60⟩:Sy Td) [] Try.f104 [.one (.ptr 0 0),.fn 105 [.ptr 1 0]] [⟨.bx [.obj 2],true⟩,⟨.blk [.ptr 3 0],false⟩,⟨.us (.ext (.flat (.rw 72 [false,false,false] Q))),true⟩,⟨.bx [.obj 4],true⟩,⟨.us (.ext (.mp T)),true⟩]).al [])=some qs∧∀ q∈qs,q:=
 ⟨[Q.length≤(100000:Nat),Q.map nr3=Q,(Th.ext (Dk.mp T):Td)=Th.ext (Dk.mp T),(Th.ext (Dk.flat (FL.rw 72 [false,false,false] (Q.filter fun r=>!hitS T r))):Td)=Th.ext (Dk.flat (FL.rw 72 [false,false,false] (Q.filter fun r=>!hitS T r))),Value.int IntKind.i64 (IntKind.i64.wrap ((↑(FL.rw 72 [false,false,false] Q).n:Int) - (↑(FL.rw 72 [false,false,false] (List.filter (fun r=>!hitS T r) Q)).n:Int)))=Value.int IntKind.i64 (IntKind.i64.wrap ((↑Q.length:Int) - (↑(List.filter (fun r=>!hitS T r) Q).length:Int)))],by kernel_rfl,(by refine mcons ?_ (mcons ?_ (mcons ?_ (mcons ?_ (mcons ?_ mnil))))<;>first|rfl|exact h0|exact h1|trivial)⟩
def C_woS:Ctr Td:=fun us sub=>match us,sub with
 |[.one (.ptr 0 0),.fn 105 [.ptr 1 0]],[⟨.bx [.obj 2],true⟩,⟨.blk [.ptr 3 0],false⟩,⟨.us (.ext (.flat (.rw 72 [false,false,false] Q))),true⟩,⟨.bx [.obj 4],true⟩,⟨.us (.ext (.mp T)),true⟩]=>some ([Q.length≤100000,Q.map nr3=Q],.c (.one (.v (.int .i64 (IntKind.i64.wrap ((Q.length:Int) - ((Q.filter fun r=>!hitS T r).length:Int)))))),[⟨.bx [.obj 5],true⟩,⟨.blk [.ptr 3 0],false⟩,⟨.dead,true⟩,⟨.bx [.obj 4],true⟩,⟨.us (.ext (.mp T)),true⟩,⟨.us (.ext (.flat (.rw 72 [false,false,false] (Q.filter fun r=>!hitS T r)))),true⟩])
 |_,_=>none
set_option maxRecDepth 100000 in
theorem C_woS_ok:CtrOk Try.prog Id' 104 C_woS:=by
 intro us sub ps x sm h hp w e vs hM ha
 unfold C_woS at h
 split at h
 ·rename_i Q T
  simp only [Option.some.injEq,Prod.mk.injEq] at h
  obtain ⟨rfl,rfl,rfl⟩:=h
  have h0:=hp _ ((List.mem_cons_self ..))
  have h1:=hp _ (List.mem_cons_of_mem _ ((List.mem_cons_self ..)))
  exact ctr_way (I:=Id') (fun (W0:World) (G:Nat→Prop)=>SyOk.mk2 Try.mixed dkHo_ok (FnsR.cons (R_dfS) (FnsR.nil)) (E_of_ok (by kernel_rfl) (E_of_ok (by kernel_rfl) (EqsOk.nil)))) rfl Try.func104 (by kernel_rfl) (fun W0 G=>LpsOk.nil _) (cs:=[]) (by kernel_rfl) (woS_w0 Q T h0 h1) w e vs hM ha
 ·cases h
theorem R_woS:RowOk Try.prog Id' hardD 104 (ctrF Id' C_woS hardD):=ctrF_ok Try.call104 C_woS_ok
end Go.Proofs.Ytdenmoiaiemokaa
set_option linter.unusedVariables false
set_option linter.unusedSimpArgs false
namespace Go.Proofs.Ytdenmoiaiemokaa
open Go.RowKit
def qdE (Q:List Rw) (a b c:Int):Int:=bif (IntKind.i64.wrap ((Q.length:Int) - ((Q.filter fun r=>!hitD a b c r).length:Int)))==0 then 11 else 0
def C_qD:Ctr Td:=fun us sub=>match us,sub with
 |[.one (.ptr 0 0),.agg [.v (.int .i64 a),.v (.int .i64 b)],.one (.v (.int .i64 c))],[⟨.bx [.obj 1],true⟩,⟨.us (.ext (.flat (.rw 72 [false,false,false] Q))),true⟩]=>some ([Q.length≤100000,Q.map nr3=Q],.c (.one (.v (.int .i64 (qdE Q a b c)))),[⟨.bx [.obj 2],true⟩,⟨.dead,true⟩,⟨.us (.ext (.flat (.rw 72 [false,false,false] (Q.filter fun r=>!hitD a b c r)))),true⟩])
 |_,_=>none
set_option maxRecDepth 100000 in
theorem qS_w0 (Q:List Rw) (T:List ((Int×Int)×Int)) (h0:Q.length≤100000) (h1:Q.map nr3=Q):∃ qs,wayO Id' ([⟨.bx [.obj 2],true⟩,⟨.bx [.obj 3],true⟩,⟨.us (.ext (.flat (.rw 72 [false,false,false] Q))),true⟩,⟨.us (.ext (.mp T)),true⟩]:Mem Td).length [⟨.bx [.obj 4],true⟩,⟨.bx [.obj 3],true⟩,⟨.dead,true⟩,⟨.us (.ext (.mp T)),true⟩,⟨.us (.ext (.flat (.rw 72 [false,false,false] (Q.filter fun r=>!hitS T r)))),true⟩] (.c (.one (.v (.int .i64 (IntKind.i64.wrap ((Q.length:Int) - ((Q.filter fun r=>!hitS T r).length:Int))))))) ((runFn (⟨Try.prog,[],[E_of Try.prog 57,E_of Try.prog 72],dkHo,Id'.one,60⟩:Sy Td) [(100001,mapG (modAt fzE 4) (⟨Try.prog,[(104,ctrF Id' C_woS hardD)],[E_of Try.prog 57,E_of Try.prog 72],dkHo,Id'.one,60⟩:Sy Td) 8 (regO 1 (bodyOf Try.f41)) (drwR 1 (bodyOf Try.f41)))] Try.f41 [.one (.ptr 0 0),.one (.ptr 1 0)] [⟨.bx [.obj 2],true⟩,⟨.bx [.obj 3],true⟩,⟨.us (.ext (.flat (.rw 72 [false,false,false] Q))),true⟩,⟨.us (.ext (.mp T)),true⟩]).al [])=some qs∧∀ q∈qs,q:=
 ⟨[Q.length≤(100000:Nat),Q.map nr3=Q,(Th.ext (Dk.mp T):Td)=Th.ext (Dk.mp T),(Th.ext (Dk.flat (FL.rw 72 [false,false,false] (Q.filter fun r=>!hitS T r))):Td)=Th.ext (Dk.flat (FL.rw 72 [false,false,false] (Q.filter fun r=>!hitS T r))),Value.int IntKind.i64 (IntKind.i64.wrap ((↑Q.length:Int) - (↑(List.filter (fun r=>!hitS T r) Q).length:Int)))=Value.int IntKind.i64 (IntKind.i64.wrap ((↑Q.length:Int) - (↑(List.filter (fun r=>!hitS T r) Q).length:Int)))],by kernel_rfl,(by refine mcons ?_ (mcons ?_ (mcons ?_ (mcons ?_ (mcons ?_ mnil))))<;>first|rfl|exact h0|exact h1|trivial)⟩
def C_qS:Ctr Td:=fun us sub=>match us,sub with
 |[.one (.ptr 0 0),.one (.ptr 1 0)],[⟨.bx [.obj 2],true⟩,⟨.bx [.obj 3],true⟩,⟨.us (.ext (.flat (.rw 72 [false,false,false] Q))),true⟩,⟨.us (.ext (.mp T)),true⟩]=>some ([Q.length≤100000,Q.map nr3=Q],.c (.one (.v (.int .i64 (IntKind.i64.wrap ((Q.length:Int) - ((Q.filter fun r=>!hitS T r).length:Int)))))),[⟨.bx [.obj 4],true⟩,⟨.bx [.obj 3],true⟩,⟨.dead,true⟩,⟨.us (.ext (.mp T)),true⟩,⟨.us (.ext (.flat (.rw 72 [false,false,false] (Q.filter fun r=>!hitS T r)))),true⟩])
 |_,_=>none
set_option maxRecDepth 100000 in
theorem C_qS_ok:CtrOk Try.prog Id' 41 C_qS:=by
 intro us sub ps x sm h hp w e vs hM ha
 unfold C_qS at h
 split at h
 ·rename_i Q T
  simp only [Option.some.injEq,Prod.mk.injEq] at h
  obtain ⟨rfl,rfl,rfl⟩:=h
  have h0:=hp _ ((List.mem_cons_self ..))
  have h1:=hp _ (List.mem_cons_of_mem _ ((List.mem_cons_self ..)))
  exact ctr_way (I:=Id') (fun (W0:World) (G:Nat→Prop)=>SyOk.mk2 Try.mixed dkHo_ok (FnsR.nil) (E_of_ok (by kernel_rfl) (E_of_ok (by kernel_rfl) (EqsOk.nil)))) rfl Try.func41 (by kernel_rfl) (fun W0 G=>LpsOk.cons (by kernel_rfl) (mapG_sound (id:=1) ((fun (W0:World) (G:Nat→Prop)=>SyOk.mk2 Try.mixed dkHo_ok (FnsR.cons (R_woS) (FnsR.nil)) (E_of_ok (by kernel_rfl) (E_of_ok (by kernel_rfl) (EqsOk.nil)))) W0 G) rfl (fun w e mem h=>fz_ok (W0:=W0) (G:=G) 4 w e _ h)) (LpsOk.nil _)) (cs:=[]) (by kernel_rfl) (qS_w0 Q T h0 h1) w e vs hM ha
 ·cases h
theorem R_qS:RowOk Try.prog Id' hardD 41 (ctrF Id' C_qS hardD):=ctrF_ok Try.call41 C_qS_ok
end Go.Proofs.Ytdenmoiaiemokaa
set_option linter.unusedVariables false
set_option linter.unusedSimpArgs false
namespace Go.Proofs.Ytdenmoiaiemokaa
open Go.RowKit
set_option maxRecDepth 100000 in
theorem rnl_w (l:List Rw) (a b cl md:Int) (Y Yn:List Rw) (Z Zn:List ((Int×Int)×Int)) (k:Nat) (f:Nat→Value) (h0:(decide ((k:Int)<(l.length:Int))&&decide ((k:Int)<40))=true) (h1:0≤(k:Int)∧(k:Int).toNat<l.length) (h2:IntKind.i64.wrap ((k:Int)+1)=((k+1:Nat):Int)) (h3:((l.getD ((k:Int).toNat) Rw.zero).is.getD 0 0==0)=true) (h4:Y.length≤10000) (h5:wtT Y ((l.getD ((k:Int).toNat) Rw.zero).is.getD 3 0) ((l.getD ((k:Int).toNat) Rw.zero).is.getD 4 0) ((l.getD ((k:Int).toNat) Rw.zero).is.getD 1 0)=Yn) (h6:Z=Zn):∃ qs,alN Id' 6 [(11,.c (.one (.v (.int .i64 ((k+1:Nat):Int)))))] [⟨.us (.ext (.vw [false,false,false,false,false] l)),false⟩,⟨.blk [.v (.int .i64 a),.v (.int .i64 b)],true⟩,⟨.bx [.obj 6],true⟩,⟨.dead,true⟩,⟨.bx [.obj 5],true⟩,⟨.us (.ext (.mp Zn)),true⟩,⟨.us (.ext (.flat (.rw 72 [false,false,false] Yn))),true⟩] ((symC (⟨Try.prog,[(35,ctrF Id' C_pwt hardD),(36,ctrF Id' C_tgr hardD),(37,ctrF Id' C_tdr hardD)],[E_of Try.prog 57,E_of Try.prog 72],dkHo,Id'.one,60⟩:Sy Td) [] 198 (hdC (loopsC (bodyOf Try.f4)) 0) ⟨[(11,.c (.one (.v (.int .i64 (k:Int)))))]++anyB' (writesC (hdC (loopsC (bodyOf Try.f4)) 0)) ([(0,.c (.one (.obj 0))),(5,.c (.one (.ptr 1 0))),(2,.c (.one (.v (.int .i64 cl)))),(3,.c (.one (.v (.int .i64 md)))),(9,.c (.one (.ptr 2 0))),(10,.c (.one (.ptr 4 0)))]++tabV f 198),[⟨.us (.ext (.vw [false,false,false,false,false] l)),false⟩,⟨.blk [.v (.int .i64 a),.v (.int .i64 b)],true⟩,⟨.bx [.obj 6],true⟩,⟨.dead,true⟩,⟨.bx [.obj 5],true⟩,⟨.us (.ext (.mp Z)),true⟩,⟨.us (.ext (.flat (.rw 72 [false,false,false] Y))),true⟩],0⟩).al [true,true])=some qs∧∀ q∈qs,q:=
 ⟨[(decide ((↑k:Int)<(↑l.length:Int))&&decide ((↑k:Int)<(40:Int)))=true,(0:Int)≤(↑k:Int)∧(↑k:Int).toNat<l.length,((l.getD (↑k:Int).toNat Rw.zero).is.getD (0:Nat) (0:Int)==(0:Int))=true,Y.length≤(10000:Nat),(0:Int)≤(↑k:Int)∧(↑k:Int).toNat<l.length,(0:Int)≤(↑k:Int)∧(↑k:Int).toNat<l.length,(Th.ext (Dk.vw [false,false,false,false,false] l):Td)=Th.ext (Dk.vw [false,false,false,false,false] l),Value.int IntKind.i64 a=Value.int IntKind.i64 a,Value.int IntKind.i64 b=Value.int IntKind.i64 b,(Th.ext (Dk.mp Z):Td)=Th.ext (Dk.mp Zn),(Th.ext (Dk.flat (FL.rw 72 [false,false,false] (wtT Y ((l.getD (↑k:Int).toNat Rw.zero).is.getD ((0:Nat)+(1:Nat)+(1:Nat)+(1:Nat)) (0:Int)) ((l.getD (↑k:Int).toNat Rw.zero).is.getD ((0:Nat)+(1:Nat)+(1:Nat)+(1:Nat)+(1:Nat)) (0:Int)) ((l.getD (↑k:Int).toNat Rw.zero).is.getD ((0:Nat)+(1:Nat)) (0:Int))))):Td)=Th.ext (Dk.flat (FL.rw 72 [false,false,false] Yn)),Value.int IntKind.i64 (IntKind.i64.wrap ((↑k:Int)+(1:Int)))=Value.int IntKind.i64 (↑(k+(1:Nat)):Int)],by kernel_rfl,(by refine mcons ?_ (mcons ?_ (mcons ?_ (mcons ?_ (mcons ?_ (mcons ?_ (mcons ?_ (mcons ?_ (mcons ?_ (mcons ?_ (mcons ?_ (mcons ?_ mnil)))))))))))<;>first|rfl|exact h0|exact h1|exact h2|exact h3|exact h4|exact h5|exact h6|trivial|(exact congrArg (fun x=>(Th.ext (Dk.flat (FL.rw 72 [false,false,false] x)):Td)) h5)|(exact congrArg (fun x=>(Th.ext (Dk.mp x):Td)) h6)|(exact congrArg (Value.int .i64) h2))⟩
set_option maxRecDepth 100000 in
theorem rnl_g (l:List Rw) (a b cl md:Int) (Y Yn:List Rw) (Z Zn:List ((Int×Int)×Int)) (k:Nat) (f:Nat→Value) (h0:(decide ((k:Int)<(l.length:Int))&&decide ((k:Int)<40))=true) (h1:0≤(k:Int)∧(k:Int).toNat<l.length) (h2:IntKind.i64.wrap ((k:Int)+1)=((k+1:Nat):Int)) (h3:((l.getD ((k:Int).toNat) Rw.zero).is.getD 0 0==0)=false) (h4:((l.getD ((k:Int).toNat) Rw.zero).is.getD 0 0==4)=true) (h5:Y=Yn) (h6:grT Z ((l.getD ((k:Int).toNat) Rw.zero).is.getD 3 0) ((l.getD ((k:Int).toNat) Rw.zero).is.getD 4 0) ((l.getD ((k:Int).toNat) Rw.zero).is.getD 1 0) ((l.getD ((k:Int).toNat) Rw.zero).is.getD 2 0)=Zn):∃ qs,alN Id' 6 [(11,.c (.one (.v (.int .i64 ((k+1:Nat):Int)))))] [⟨.us (.ext (.vw [false,false,false,false,false] l)),false⟩,⟨.blk [.v (.int .i64 a),.v (.int .i64 b)],true⟩,⟨.bx [.obj 6],true⟩,⟨.dead,true⟩,⟨.bx [.obj 5],true⟩,⟨.us (.ext (.mp Zn)),true⟩,⟨.us (.ext (.flat (.rw 72 [false,false,false] Yn))),true⟩] ((symC (⟨Try.prog,[(35,ctrF Id' C_pwt hardD),(36,ctrF Id' C_tgr hardD),(37,ctrF Id' C_tdr hardD)],[E_of Try.prog 57,E_of Try.prog 72],dkHo,Id'.one,60⟩:Sy Td) [] 198 (hdC (loopsC (bodyOf Try.f4)) 0) ⟨[(11,.c (.one (.v (.int .i64 (k:Int)))))]++anyB' (writesC (hdC (loopsC (bodyOf Try.f4)) 0)) ([(0,.c (.one (.obj 0))),(5,.c (.one (.ptr 1 0))),(2,.c (.one (.v (.int .i64 cl)))),(3,.c (.one (.v (.int .i64 md)))),(9,.c (.one (.ptr 2 0))),(10,.c (.one (.ptr 4 0)))]++tabV f 198),[⟨.us (.ext (.vw [false,false,false,false,false] l)),false⟩,⟨.blk [.v (.int .i64 a),.v (.int .i64 b)],true⟩,⟨.bx [.obj 6],true⟩,⟨.dead,true⟩,⟨.bx [.obj 5],true⟩,⟨.us (.ext (.mp Z)),true⟩,⟨.us (.ext (.flat (.rw 72 [false,false,false] Y))),true⟩],0⟩).al [true,false,true])=some qs∧∀ q∈qs,q:=
 ⟨[(decide ((↑k:Int)<(↑l.length:Int))&&decide ((↑k:Int)<(40:Int)))=true,(0:Int)≤(↑k:Int)∧(↑k:Int).toNat<l.length,((l.getD (↑k:Int).toNat Rw.zero).is.getD (0:Nat) (0:Int)==(0:Int))=false,((l.getD (↑k:Int).toNat Rw.zero).is.getD (0:Nat) (0:Int)==(4:Int))=true,(0:Int)≤(↑k:Int)∧(↑k:Int).toNat<l.length,(0:Int)≤(↑k:Int)∧(↑k:Int).toNat<l.length,(0:Int)≤(↑k:Int)∧(↑k:Int).toNat<l.length,(Th.ext (Dk.vw [false,false,false,false,false] l):Td)=Th.ext (Dk.vw [false,false,false,false,false] l),Value.int IntKind.i64 a=Value.int IntKind.i64 a,Value.int IntKind.i64 b=Value.int IntKind.i64 b,(Th.ext (Dk.mp (grT Z ((l.getD (↑k:Int).toNat Rw.zero).is.getD ((0:Nat)+(1:Nat)+(1:Nat)+(1:Nat)) (0:Int)) ((l.getD (↑k:Int).toNat Rw.zero).is.getD ((0:Nat)+(1:Nat)+(1:Nat)+(1:Nat)+(1:Nat)) (0:Int)) ((l.getD (↑k:Int).toNat Rw.zero).is.getD ((0:Nat)+(1:Nat)) (0:Int)) ((l.getD (↑k:Int).toNat Rw.zero).is.getD ((0:Nat)+(1:Nat)+(1:Nat)) (0:Int)))):Td)=Th.ext (Dk.mp Zn),(Th.ext (Dk.flat (FL.rw 72 [false,false,false] Y)):Td)=Th.ext (Dk.flat (FL.rw 72 [false,false,false] Yn)),Value.int IntKind.i64 (IntKind.i64.wrap ((↑k:Int)+(1:Int)))=Value.int IntKind.i64 (↑(k+(1:Nat)):Int)],by kernel_rfl,(by refine mcons ?_ (mcons ?_ (mcons ?_ (mcons ?_ (mcons ?_ (mcons ?_ (mcons ?_ (mcons ?_ (mcons ?_ (mcons ?_ (mcons ?_ (mcons ?_ (mcons ?_ mnil))))))))))))<;>first|rfl|exact h0|exact h1|exact h2|exact h3|exact h4|exact h5|exact h6|trivial|(exact congrArg (fun x=>(Th.ext (Dk.flat (FL.rw 72 [false,false,false] x)):Td)) h5)|(exact congrArg (fun x=>(Th.ext (Dk.mp x):Td)) h6)|(exact congrArg (Value.int .i64) h2))⟩
set_option maxRecDepth 100000 in
theorem rnl_d (l:List Rw) (a b cl md:Int) (Y Yn:List Rw) (Z Zn:List ((Int×Int)×Int)) (k:Nat) (f:Nat→Value) (h0:(decide ((k:Int)<(l.length:Int))&&decide ((k:Int)<40))=true) (h1:0≤(k:Int)∧(k:Int).toNat<l.length) (h2:IntKind.i64.wrap ((k:Int)+1)=((k+1:Nat):Int)) (h3:((l.getD ((k:Int).toNat) Rw.zero).is.getD 0 0==0)=false) (h4:((l.getD ((k:Int).toNat) Rw.zero).is.getD 0 0==4)=false) (h5:((l.getD ((k:Int).toNat) Rw.zero).is.getD 0 0==5)=true) (h6:Y=Yn) (h7:drT Z ((l.getD ((k:Int).toNat) Rw.zero).is.getD 3 0) ((l.getD ((k:Int).toNat) Rw.zero).is.getD 4 0) ((l.getD ((k:Int).toNat) Rw.zero).is.getD 1 0)=Zn):∃ qs,alN Id' 6 [(11,.c (.one (.v (.int .i64 ((k+1:Nat):Int)))))] [⟨.us (.ext (.vw [false,false,false,false,false] l)),false⟩,⟨.blk [.v (.int .i64 a),.v (.int .i64 b)],true⟩,⟨.bx [.obj 6],true⟩,⟨.dead,true⟩,⟨.bx [.obj 5],true⟩,⟨.us (.ext (.mp Zn)),true⟩,⟨.us (.ext (.flat (.rw 72 [false,false,false] Yn))),true⟩] ((symC (⟨Try.prog,[(35,ctrF Id' C_pwt hardD),(36,ctrF Id' C_tgr hardD),(37,ctrF Id' C_tdr hardD)],[E_of Try.prog 57,E_of Try.prog 72],dkHo,Id'.one,60⟩:Sy Td) [] 198 (hdC (loopsC (bodyOf Try.f4)) 0) ⟨[(11,.c (.one (.v (.int .i64 (k:Int)))))]++anyB' (writesC (hdC (loopsC (bodyOf Try.f4)) 0)) ([(0,.c (.one (.obj 0))),(5,.c (.one (.ptr 1 0))),(2,.c (.one (.v (.int .i64 cl)))),(3,.c (.one (.v (.int .i64 md)))),(9,.c (.one (.ptr 2 0))),(10,.c (.one (.ptr 4 0)))]++tabV f 198),[⟨.us (.ext (.vw [false,false,false,false,false] l)),false⟩,⟨.blk [.v (.int .i64 a),.v (.int .i64 b)],true⟩,⟨.bx [.obj 6],true⟩,⟨.dead,true⟩,⟨.bx [.obj 5],true⟩,⟨.us (.ext (.mp Z)),true⟩,⟨.us (.ext (.flat (.rw 72 [false,false,false] Y))),true⟩],0⟩).al [true,false,false,true])=some qs∧∀ q∈qs,q:=
 ⟨[(decide ((↑k:Int)<(↑l.length:Int))&&decide ((↑k:Int)<(40:Int)))=true,(0:Int)≤(↑k:Int)∧(↑k:Int).toNat<l.length,((l.getD (↑k:Int).toNat Rw.zero).is.getD (0:Nat) (0:Int)==(0:Int))=false,((l.getD (↑k:Int).toNat Rw.zero).is.getD (0:Nat) (0:Int)==(4:Int))=false,((l.getD (↑k:Int).toNat Rw.zero).is.getD (0:Nat) (0:Int)==(5:Int))=true,(0:Int)≤(↑k:Int)∧(↑k:Int).toNat<l.length,(0:Int)≤(↑k:Int)∧(↑k:Int).toNat<l.length,(Th.ext (Dk.vw [false,false,false,false,false] l):Td)=Th.ext (Dk.vw [false,false,false,false,false] l),Value.int IntKind.i64 a=Value.int IntKind.i64 a,Value.int IntKind.i64 b=Value.int IntKind.i64 b,(Th.ext (Dk.mp (drT Z ((l.getD (↑k:Int).toNat Rw.zero).is.getD ((0:Nat)+(1:Nat)+(1:Nat)+(1:Nat)) (0:Int)) ((l.getD (↑k:Int).toNat Rw.zero).is.getD ((0:Nat)+(1:Nat)+(1:Nat)+(1:Nat)+(1:Nat)) (0:Int)) ((l.getD (↑k:Int).toNat Rw.zero).is.getD ((0:Nat)+(1:Nat)) (0:Int)))):Td)=Th.ext (Dk.mp Zn),(Th.ext (Dk.flat (FL.rw 72 [false,false,false] Y)):Td)=Th.ext (Dk.flat (FL.rw 72 [false,false,false] Yn)),Value.int IntKind.i64 (IntKind.i64.wrap ((↑k:Int)+(1:Int)))=Value.int IntKind.i64 (↑(k+(1:Nat)):Int)],by kernel_rfl,(by refine mcons ?_ (mcons ?_ (mcons ?_ (mcons ?_ (mcons ?_ (mcons ?_ (mcons ?_ (mcons ?_ (mcons ?_ (mcons ?_ (mcons ?_ (mcons ?_ (mcons ?_ mnil))))))))))))<;>first|rfl|exact h0|exact h1|exact h2|exact h3|exact h4|exact h5|exact h6|exact h7|trivial|(exact congrArg (fun x=>(Th.ext (Dk.flat (FL.rw 72 [false,false,false] x)):Td)) h6)|(exact congrArg (fun x=>(Th.ext (Dk.mp x):Td)) h7)|(exact congrArg (Value.int .i64) h2))⟩
set_option maxRecDepth 100000 in
theorem rnl_o (l:List Rw) (a b cl md:Int) (Y Yn:List Rw) (Z Zn:List ((Int×Int)×Int)) (k:Nat) (f:Nat→Value) (h0:(decide ((k:Int)<(l.length:Int))&&decide ((k:Int)<40))=true) (h1:0≤(k:Int)∧(k:Int).toNat<l.length) (h2:IntKind.i64.wrap ((k:Int)+1)=((k+1:Nat):Int)) (h3:((l.getD ((k:Int).toNat) Rw.zero).is.getD 0 0==0)=false) (h4:((l.getD ((k:Int).toNat) Rw.zero).is.getD 0 0==4)=false) (h5:((l.getD ((k:Int).toNat) Rw.zero).is.getD 0 0==5)=false) (h6:Y=Yn) (h7:Z=Zn):∃ qs,alN Id' 6 [(11,.c (.one (.v (.int .i64 ((k+1:Nat):Int)))))] [⟨.us (.ext (.vw [false,false,false,false,false] l)),false⟩,⟨.blk [.v (.int .i64 a),.v (.int .i64 b)],true⟩,⟨.bx [.obj 6],true⟩,⟨.dead,true⟩,⟨.bx [.obj 5],true⟩,⟨.us (.ext (.mp Zn)),true⟩,⟨.us (.ext (.flat (.rw 72 [false,false,false] Yn))),true⟩] ((symC (⟨Try.prog,[(35,ctrF Id' C_pwt hardD),(36,ctrF Id' C_tgr hardD),(37,ctrF Id' C_tdr hardD)],[E_of Try.prog 57,E_of Try.prog 72],dkHo,Id'.one,60⟩:Sy Td) [] 198 (hdC (loopsC (bodyOf Try.f4)) 0) ⟨[(11,.c (.one (.v (.int .i64 (k:Int)))))]++anyB' (writesC (hdC (loopsC (bodyOf Try.f4)) 0)) ([(0,.c (.one (.obj 0))),(5,.c (.one (.ptr 1 0))),(2,.c (.one (.v (.int .i64 cl)))),(3,.c (.one (.v (.int .i64 md)))),(9,.c (.one (.ptr 2 0))),(10,.c (.one (.ptr 4 0)))]++tabV f 198),[⟨.us (.ext (.vw [false,false,false,false,false] l)),false⟩,⟨.blk [.v (.int .i64 a),.v (.int .i64 b)],true⟩,⟨.bx [.obj 6],true⟩,⟨.dead,true⟩,⟨.bx [.obj 5],true⟩,⟨.us (.ext (.mp Z)),true⟩,⟨.us (.ext (.flat (.rw 72 [false,false,false] Y))),true⟩],0⟩).al [true,false,false,false])=some qs∧∀ q∈qs,q:=
 ⟨[(decide ((↑k:Int)<(↑l.length:Int))&&decide ((↑k:Int)<(40:Int)))=true,(0:Int)≤(↑k:Int)∧(↑k:Int).toNat<l.length,((l.getD (↑k:Int).toNat Rw.zero).is.getD (0:Nat) (0:Int)==(0:Int))=false,((l.getD (↑k:Int).toNat Rw.zero).is.getD (0:Nat) (0:Int)==(4:Int))=false,((l.getD (↑k:Int).toNat Rw.zero).is.getD (0:Nat) (0:Int)==(5:Int))=false,(Th.ext (Dk.vw [false,false,false,false,false] l):Td)=Th.ext (Dk.vw [false,false,false,false,false] l),Value.int IntKind.i64 a=Value.int IntKind.i64 a,Value.int IntKind.i64 b=Value.int IntKind.i64 b,(Th.ext (Dk.mp Z):Td)=Th.ext (Dk.mp Zn),(Th.ext (Dk.flat (FL.rw 72 [false,false,false] Y)):Td)=Th.ext (Dk.flat (FL.rw 72 [false,false,false] Yn)),Value.int IntKind.i64 (IntKind.i64.wrap ((↑k:Int)+(1:Int)))=Value.int IntKind.i64 (↑(k+(1:Nat)):Int)],by kernel_rfl,(by refine mcons ?_ (mcons ?_ (mcons ?_ (mcons ?_ (mcons ?_ (mcons ?_ (mcons ?_ (mcons ?_ (mcons ?_ (mcons ?_ (mcons ?_ mnil))))))))))<;>first|rfl|exact h0|exact h1|exact h2|exact h3|exact h4|exact h5|exact h6|exact h7|trivial|(exact congrArg (fun x=>(Th.ext (Dk.flat (FL.rw 72 [false,false,false] x)):Td)) h6)|(exact congrArg (fun x=>(Th.ext (Dk.mp x):Td)) h7)|(exact congrArg (Value.int .i64) h2))⟩
set_option maxRecDepth 100000 in
theorem rnl_x (l:List Rw) (a b cl md:Int) (Y Yn:List Rw) (Z Zn:List ((Int×Int)×Int)) (k:Nat) (f:Nat→Value) (h0:(decide ((k:Int)<(l.length:Int))&&decide ((k:Int)<40))=false):∃ qs,alX Id' 6 0 [] [⟨.us (.ext (.vw [false,false,false,false,false] l)),false⟩,⟨.blk [.v (.int .i64 a),.v (.int .i64 b)],true⟩,⟨.bx [.obj 6],true⟩,⟨.dead,true⟩,⟨.bx [.obj 5],true⟩,⟨.us (.ext (.mp Z)),true⟩,⟨.us (.ext (.flat (.rw 72 [false,false,false] Y))),true⟩] ((symC (⟨Try.prog,[(35,ctrF Id' C_pwt hardD),(36,ctrF Id' C_tgr hardD),(37,ctrF Id' C_tdr hardD)],[E_of Try.prog 57,E_of Try.prog 72],dkHo,Id'.one,60⟩:Sy Td) [] 198 (hdC (loopsC (bodyOf Try.f4)) 0) ⟨[(11,.c (.one (.v (.int .i64 (k:Int)))))]++anyB' (writesC (hdC (loopsC (bodyOf Try.f4)) 0)) ([(0,.c (.one (.obj 0))),(5,.c (.one (.ptr 1 0))),(2,.c (.one (.v (.int .i64 cl)))),(3,.c (.one (.v (.int .i64 md)))),(9,.c (.one (.ptr 2 0))),(10,.c (.one (.ptr 4 0)))]++tabV f 198),[⟨.us (.ext (.vw [false,false,false,false,false] l)),false⟩,⟨.blk [.v (.int .i64 a),.v (.int .i64 b)],true⟩,⟨.bx [.obj 6],true⟩,⟨.dead,true⟩,⟨.bx [.obj 5],true⟩,⟨.us (.ext (.mp Z)),true⟩,⟨.us (.ext (.flat (.rw 72 [false,false,false] Y))),true⟩],0⟩).al [false])=some qs∧∀ q∈qs,q:=
 ⟨[(decide ((↑k:Int)<(↑l.length:Int))&&decide ((↑k:Int)<(40:Int)))=false,(Th.ext (Dk.vw [false,false,false,false,false] l):Td)=Th.ext (Dk.vw [false,false,false,false,false] l),Value.int IntKind.i64 a=Value.int IntKind.i64 a,Value.int IntKind.i64 b=Value.int IntKind.i64 b,(Th.ext (Dk.mp Z):Td)=Th.ext (Dk.mp Z),(Th.ext (Dk.flat (FL.rw 72 [false,false,false] Y)):Td)=Th.ext (Dk.flat (FL.rw 72 [false,false,false] Y))],by kernel_rfl,(by refine mcons ?_ (mcons ?_ (mcons ?_ (mcons ?_ (mcons ?_ (mcons ?_ mnil)))))<;>first|rfl|exact h0|trivial)⟩
def rnStep (d:Rw) (s:List Rw×List ((Int×Int)×Int)):List Rw×List ((Int×Int)×Int):=
 bif d.is.getD 0 0==0 then (wtT s.1 (d.is.getD 3 0) (d.is.getD 4 0) (d.is.getD 1 0),s.2)
 else bif d.is.getD 0 0==4 then (s.1,grT s.2 (d.is.getD 3 0) (d.is.getD 4 0) (d.is.getD 1 0) (d.is.getD 2 0))
 else bif d.is.getD 0 0==5 then (s.1,drT s.2 (d.is.getD 3 0) (d.is.getD 4 0) (d.is.getD 1 0)) else s
def rnS (l:List Rw):Nat→List Rw×List ((Int×Int)×Int)
 |0=>([],[])
 |k+1=>rnStep (l.getD k Rw.zero) (rnS l k)
theorem rnS_ok (l:List Rw):∀ k,(rnS l k).1.length≤k∧Nr3 (rnS l k).1
 |0=>⟨Nat.le_refl _,rfl⟩
 |k+1=>by
  obtain ⟨h1,h2⟩:=rnS_ok l k
  show (rnStep _ _).1.length≤_∧Nr3 (rnStep _ _).1
  unfold rnStep
  cases (l.getD k Rw.zero).is.getD 0 0==0 with
  |true=>exact ⟨by have:=wtT_len (rnS l k).1 ((l.getD k Rw.zero).is.getD 3 0) ((l.getD k Rw.zero).is.getD 4 0) ((l.getD k Rw.zero).is.getD 1 0);simp only [cond_true];omega,nrm_wt h2 _ _ _⟩
  |false=>
   cases (l.getD k Rw.zero).is.getD 0 0==4 with
   |true=>exact ⟨by simp only [cond_true,cond_false];omega,h2⟩
   |false=>
    cases (l.getD k Rw.zero).is.getD 0 0==5 with
    |true=>exact ⟨by simp only [cond_true,cond_false];omega,h2⟩
    |false=>exact ⟨by simp only [cond_false];omega,h2⟩
def rnK (l:List Rw):Nat:=min l.length 40
set_option maxRecDepth 100000 in
theorem rnl_lp (l:List Rw) (a b cl md:Int) {W0:World} {G:Nat→Prop} (S0:Sy Td) (hS0:S0.P=Try.prog):LoopSound S0 Id' W0 G 198 (hdC (loopsC (bodyOf Try.f4)) 0) (lpG Id' 198 (hdC (loopsC (bodyOf Try.f4)) 0) 6 [(11,.c (.one (.v (.int .i64 ((0:Nat):Int)))))] [(0,.c (.one (.obj 0))),(5,.c (.one (.ptr 1 0))),(2,.c (.one (.v (.int .i64 cl)))),(3,.c (.one (.v (.int .i64 md)))),(9,.c (.one (.ptr 2 0))),(10,.c (.one (.ptr 4 0)))] [⟨.us (.ext (.vw [false,false,false,false,false] l)),false⟩,⟨.blk [.v (.int .i64 a),.v (.int .i64 b)],true⟩,⟨.bx [.obj 6],true⟩,⟨.dead,true⟩,⟨.bx [.obj 5],true⟩,⟨.us (.ext (.mp (rnS l 0).2)),true⟩,⟨.us (.ext (.flat (.rw 72 [false,false,false] (rnS l 0).1))),true⟩] (.leaf (.exit 0) [] [⟨.us (.ext (.vw [false,false,false,false,false] l)),false⟩,⟨.blk [.v (.int .i64 a),.v (.int .i64 b)],true⟩,⟨.bx [.obj 6],true⟩,⟨.dead,true⟩,⟨.bx [.obj 5],true⟩,⟨.us (.ext (.mp (rnS l (rnK l)).2)),true⟩,⟨.us (.ext (.flat (.rw 72 [false,false,false] (rnS l (rnK l)).1))),true⟩])):=by
 refine lp_sound (V:=fun k=>[(11,.c (.one (.v (.int .i64 (k:Int)))))]) (M:=(fun k=>[⟨.us (.ext (.vw [false,false,false,false,false] l)),false⟩,⟨.blk [.v (.int .i64 a),.v (.int .i64 b)],true⟩,⟨.bx [.obj 6],true⟩,⟨.dead,true⟩,⟨.bx [.obj 5],true⟩,⟨.us (.ext (.mp (rnS l k).2)),true⟩,⟨.us (.ext (.flat (.rw 72 [false,false,false] (rnS l k).1))),true⟩]:Nat→Mem Td)) (N:=40) (Ux:=fun k x=>match x with|.exit 0=>some ([],([⟨.us (.ext (.vw [false,false,false,false,false] l)),false⟩,⟨.blk [.v (.int .i64 a),.v (.int .i64 b)],true⟩,⟨.bx [.obj 6],true⟩,⟨.dead,true⟩,⟨.bx [.obj 5],true⟩,⟨.us (.ext (.mp (rnS l (rnK l)).2)),true⟩,⟨.us (.ext (.flat (.rw 72 [false,false,false] (rnS l (rnK l)).1))),true⟩]:Mem Td))|_=>none) (X:=fun _ _=>True) (J:=fun k=>k≤rnK l) (fun k=>by kernel_rfl) (Nat.zero_le _) (fun k hk hJ f=>?_) (fun K hK k x U hk hU hX=>?_)
 ·rw [hS0]
  have hKl:rnK l≤l.length∧rnK l≤40:=by unfold rnK;omega
  obtain ⟨ok1,ok2⟩:=rnS_ok l k
  cases hT:(decide ((k:Int)<(l.length:Int))&&decide ((k:Int)<40)) with
  |false=>
   have hke:k=rnK l:=by
    rw [Bool.and_eq_false_iff,decide_eq_false_iff_not,decide_eq_false_iff_not] at hT
    unfold rnK at hJ ⊢
    omega
   subst hke
   exact rnd_xD (⟨Try.prog,[(35,ctrF Id' C_pwt hardD),(36,ctrF Id' C_tgr hardD),(37,ctrF Id' C_tdr hardD)],[E_of Try.prog 57,E_of Try.prog 72],dkHo,Id'.one,60⟩:Sy Td) rfl ((fun (W0:World) (G:Nat→Prop)=>SyOk.mk2 Try.mixed dkHo_ok (FnsR.cons (R_pwt) (FnsR.cons (R_tgr) (FnsR.cons (R_tdr) (FnsR.nil)))) (E_of_ok (by kernel_rfl) (E_of_ok (by kernel_rfl) (EqsOk.nil)))) W0 G) (rnl_x l a b cl md (rnS l (rnK l)).1 [] (rnS l (rnK l)).2 [] (rnK l) f hT) rfl trivial
  |true=>
   have hk1:k<l.length∧k<40:=by
    rw [Bool.and_eq_true,decide_eq_true_eq,decide_eq_true_eq] at hT
    omega
   have hk2:k+1≤rnK l:=by unfold rnK;omega
   have hW:IntKind.i64.wrap ((k:Int)+1)=((k+1:Nat):Int):=by rw [IntWalk.i64_in _ (by omega)];omega
   have hin:0≤(k:Int)∧(k:Int).toNat<l.length:=⟨by omega,by omega⟩
   have hst:rnS l (k+1)=rnStep (l.getD ((k:Int).toNat) Rw.zero) (rnS l k):=rfl
   cases h0:((l.getD ((k:Int).toNat) Rw.zero).is.getD 0 0==0) with
   |true=>
    have e1:rnS l (k+1)=(wtT (rnS l k).1 ((l.getD ((k:Int).toNat) Rw.zero).is.getD 3 0) ((l.getD ((k:Int).toNat) Rw.zero).is.getD 4 0) ((l.getD ((k:Int).toNat) Rw.zero).is.getD 1 0),(rnS l k).2):=by rw [hst,rnStep,h0];rfl
    exact rnd_nD (⟨Try.prog,[(35,ctrF Id' C_pwt hardD),(36,ctrF Id' C_tgr hardD),(37,ctrF Id' C_tdr hardD)],[E_of Try.prog 57,E_of Try.prog 72],dkHo,Id'.one,60⟩:Sy Td) rfl ((fun (W0:World) (G:Nat→Prop)=>SyOk.mk2 Try.mixed dkHo_ok (FnsR.cons (R_pwt) (FnsR.cons (R_tgr) (FnsR.cons (R_tdr) (FnsR.nil)))) (E_of_ok (by kernel_rfl) (E_of_ok (by kernel_rfl) (EqsOk.nil)))) W0 G) (rnl_w l a b cl md (rnS l k).1 (rnS l (k+1)).1 (rnS l k).2 (rnS l (k+1)).2 k f hT hin hW h0 (by omega) (by rw [e1]) (by rw [e1])) rfl rfl (by omega) (by omega)
   |false=>
    cases h4:((l.getD ((k:Int).toNat) Rw.zero).is.getD 0 0==4) with
    |true=>
     have e1:rnS l (k+1)=((rnS l k).1,grT (rnS l k).2 ((l.getD ((k:Int).toNat) Rw.zero).is.getD 3 0) ((l.getD ((k:Int).toNat) Rw.zero).is.getD 4 0) ((l.getD ((k:Int).toNat) Rw.zero).is.getD 1 0) ((l.getD ((k:Int).toNat) Rw.zero).is.getD 2 0)):=by rw [hst,rnStep,h0,h4];rfl
     exact rnd_nD (⟨Try.prog,[(35,ctrF Id' C_pwt hardD),(36,ctrF Id' C_tgr hardD),(37,ctrF Id' C_tdr hardD)],[E_of Try.prog 57,E_of Try.prog 72],dkHo,Id'.one,60⟩:Sy Td) rfl ((fun (W0:World) (G:Nat→Prop)=>SyOk.mk2 Try.mixed dkHo_ok (FnsR.cons (R_pwt) (FnsR.cons (R_tgr) (FnsR.cons (R_tdr) (FnsR.nil)))) (E_of_ok (by kernel_rfl) (E_of_ok (by kernel_rfl) (EqsOk.nil)))) W0 G) (rnl_g l a b cl md (rnS l k).1 (rnS l (k+1)).1 (rnS l k).2 (rnS l (k+1)).2 k f hT hin hW h0 h4 (by rw [e1]) (by rw [e1])) rfl rfl (by omega) (by omega)
    |false=>
     cases h5:((l.getD ((k:Int).toNat) Rw.zero).is.getD 0 0==5) with
     |true=>
      have e1:rnS l (k+1)=((rnS l k).1,drT (rnS l k).2 ((l.getD ((k:Int).toNat) Rw.zero).is.getD 3 0) ((l.getD ((k:Int).toNat) Rw.zero).is.getD 4 0) ((l.getD ((k:Int).toNat) Rw.zero).is.getD 1 0)):=by rw [hst,rnStep,h0,h4,h5];rfl
      exact rnd_nD (⟨Try.prog,[(35,ctrF Id' C_pwt hardD),(36,ctrF Id' C_tgr hardD),(37,ctrF Id' C_tdr hardD)],[E_of Try.prog 57,E_of Try.prog 72],dkHo,Id'.one,60⟩:Sy Td) rfl ((fun (W0:World) (G:Nat→Prop)=>SyOk.mk2 Try.mixed dkHo_ok (FnsR.cons (R_pwt) (FnsR.cons (R_tgr) (FnsR.cons (R_tdr) (FnsR.nil)))) (E_of_ok (by kernel_rfl) (E_of_ok (by kernel_rfl) (EqsOk.nil)))) W0 G) (rnl_d l a b cl md (rnS l k).1 (rnS l (k+1)).1 (rnS l k).2 (rnS l (k+1)).2 k f hT hin hW h0 h4 h5 (by rw [e1]) (by rw [e1])) rfl rfl (by omega) (by omega)
     |false=>
      have e1:rnS l (k+1)=rnS l k:=by rw [hst,rnStep,h0,h4,h5];rfl
      exact rnd_nD (⟨Try.prog,[(35,ctrF Id' C_pwt hardD),(36,ctrF Id' C_tgr hardD),(37,ctrF Id' C_tdr hardD)],[E_of Try.prog 57,E_of Try.prog 72],dkHo,Id'.one,60⟩:Sy Td) rfl ((fun (W0:World) (G:Nat→Prop)=>SyOk.mk2 Try.mixed dkHo_ok (FnsR.cons (R_pwt) (FnsR.cons (R_tgr) (FnsR.cons (R_tdr) (FnsR.nil)))) (E_of_ok (by kernel_rfl) (E_of_ok (by kernel_rfl) (EqsOk.nil)))) W0 G) (rnl_o l a b cl md (rnS l k).1 (rnS l (k+1)).1 (rnS l k).2 (rnS l (k+1)).2 k f hT hin hW h0 h4 h5 (by rw [e1]) (by rw [e1])) rfl rfl (by omega) (by omega)
 ·revert hU
  match x with
  |.exit 0=>intro hU;simp only [Option.some.injEq] at hU;subst hU;exact hK
  |.normal=>intro hU;cases hU
  |.ret=>intro hU;cases hU
  |.exit (n+1)=>intro hU;cases hU
end Go.Proofs.Ytdenmoiaiemokaa
set_option linter.unusedVariables false
set_option linter.unusedSimpArgs false
namespace Go.Proofs.Ytdenmoiaiemokaa
open Go.RowKit
def wnO (O:List Int) (c:Int):Nat→Bool
 |0=>false
 |k+1=>wnO O c k||O.getD k 0==c
def frO (Y:List Rw) (a b c:Int):Nat→Bool
 |0=>true
 |k+1=>bif hitr a b c (Y.getD k Rw.zero) then false else frO Y a b c k
theorem wnO_take (O:List Int) (c:Int):∀ k,k≤O.length→wnO O c k=(O.take k).contains c
 |0,_=>by rw [List.take_zero];rfl
 |k+1,hk=>by
  have hj:k<O.length:=by omega
  rw [wnO,wnO_take O c k (by omega),getD_atI hj,List.take_add_one,List.getElem?_eq_getElem hj]
  rw [List.contains_eq_any_beq,List.contains_eq_any_beq,List.any_append]
  congr 1
  show _=[O[k]].any _
  rw [List.any_cons,List.any_nil,Bool.or_false,BEq.comm]
theorem wnO_all (O:List Int) (c:Int):wnO O c O.length=O.contains c:=by
 rw [wnO_take O c _ (Nat.le_refl _),List.take_of_length_le (Nat.le_refl _)]
theorem frO_take (Y:List Rw) (a b c:Int):∀ k,k≤Y.length→frO Y a b c k=!(Y.take k).any (hitr a b c)
 |0,_=>by rw [List.take_zero];rfl
 |k+1,hk=>by
  have hj:k<Y.length:=by omega
  rw [frO,frO_take Y a b c k (by omega),getD_at hj,List.take_add_one,List.getElem?_eq_getElem hj,List.any_append]
  show _=!(_||[Y[k]].any _)
  rw [List.any_cons,List.any_nil,Bool.or_false]
  cases hitr a b c Y[k]<;>cases (Y.take k).any (hitr a b c)<;>rfl
theorem frO_all (Y:List Rw) (a b c:Int):frO Y a b c Y.length=!hsE Y a b c:=by
 rw [frO_take Y a b c _ (Nat.le_refl _),List.take_of_length_le (Nat.le_refl _),hs_any]
set_option maxRecDepth 100000 in
theorem rn3_n (l:List Rw) (a b c:Int) (Y S:List Rw) (Z:List ((Int×Int)×Int)) (O:List Int) (x xn:Bool) (k:Nat) (f:Nat→Value) (h0:decide ((k:Int)<(O.length:Int))=true) (h1:IntKind.i64.wrap ((k:Int)+1)=((k+1:Nat):Int)) (h2:0≤(k:Int)∧(k:Int).toNat<O.length) (h3:(x||O.getD k 0==c)=xn):∃ qs,alN Id' 12 [(17,svV (.bool xn)),(19,.c (.one (.v (.int .i64 ((k+1:Nat):Int)))))] [⟨.us (.ext (.vw [false,false,false,false,false] l)),false⟩,⟨.blk [.v (.int .i64 a),.v (.int .i64 b)],true⟩,⟨.bx [.obj 10],true⟩,⟨.dead,true⟩,⟨.bx [.obj 5],true⟩,⟨.us (.ext (.mp Z)),true⟩,⟨.dead,true⟩,⟨.us (.ext (.flat (.rw 72 [false,false,false] Y))),true⟩,⟨.us (.ins O),true⟩,⟨.dead,true⟩,⟨.us (.ext (.flat (.rw 72 [false,false,false] S))),true⟩,⟨.us (.ext (.flat (.rw 72 [false,false,false] S))),true⟩] ((symC (⟨Try.prog,[],[E_of Try.prog 57,E_of Try.prog 72],dkHo,Id'.one,60⟩:Sy Td) [] 198 (hdC (loopsC (bodyOf Try.f4)) 2) ⟨[(17,svV (.bool x)),(19,.c (.one (.v (.int .i64 (k:Int)))))]++anyB' (writesC (hdC (loopsC (bodyOf Try.f4)) 2)) ([(13,.c (.one (.obj 8))),(16,.c (.one (.v (.int .i64 c))))]++tabV f 198),[⟨.us (.ext (.vw [false,false,false,false,false] l)),false⟩,⟨.blk [.v (.int .i64 a),.v (.int .i64 b)],true⟩,⟨.bx [.obj 10],true⟩,⟨.dead,true⟩,⟨.bx [.obj 5],true⟩,⟨.us (.ext (.mp Z)),true⟩,⟨.dead,true⟩,⟨.us (.ext (.flat (.rw 72 [false,false,false] Y))),true⟩,⟨.us (.ins O),true⟩,⟨.dead,true⟩,⟨.us (.ext (.flat (.rw 72 [false,false,false] S))),true⟩,⟨.us (.ext (.flat (.rw 72 [false,false,false] S))),true⟩],0⟩).al [true])=some qs∧∀ q∈qs,q:=
 ⟨[decide ((↑k:Int)<(↑O.length:Int))=true,(!x&&true)=true→(0:Int)≤(↑k:Int)∧(↑k:Int).toNat<O.length,(Th.ext (Dk.vw [false,false,false,false,false] l):Td)=Th.ext (Dk.vw [false,false,false,false,false] l),Value.int IntKind.i64 a=Value.int IntKind.i64 a,Value.int IntKind.i64 b=Value.int IntKind.i64 b,(Th.ext (Dk.mp Z):Td)=Th.ext (Dk.mp Z),(Th.ext (Dk.flat (FL.rw 72 [false,false,false] Y)):Td)=Th.ext (Dk.flat (FL.rw 72 [false,false,false] Y)),(Th.ins O:Td)=Th.ins O,(Th.ext (Dk.flat (FL.rw 72 [false,false,false] S)):Td)=Th.ext (Dk.flat (FL.rw 72 [false,false,false] S)),(Th.ext (Dk.flat (FL.rw 72 [false,false,false] S)):Td)=Th.ext (Dk.flat (FL.rw 72 [false,false,false] S)),Value.bool (x||O.getD (↑k:Int).toNat (0:Int)==c)=Value.bool xn,Value.int IntKind.i64 (IntKind.i64.wrap ((↑k:Int)+(1:Int)))=Value.int IntKind.i64 (↑(k+(1:Nat)):Int)],by kernel_rfl,(by refine mcons ?_ (mcons ?_ (mcons ?_ (mcons ?_ (mcons ?_ (mcons ?_ (mcons ?_ (mcons ?_ (mcons ?_ (mcons ?_ (mcons ?_ (mcons ?_ mnil)))))))))))<;>first|rfl|exact h0|exact h1|exact h2|exact h3|trivial|(exact fun _=>h2)|(exact congrArg (Value.int .i64) h1)|(exact congrArg Value.bool h3)|(exact congrArg Value.bool h1))⟩
set_option maxRecDepth 100000 in
theorem rn3_x (l:List Rw) (a b c:Int) (Y S:List Rw) (Z:List ((Int×Int)×Int)) (O:List Int) (x xn:Bool) (k:Nat) (f:Nat→Value) (h0:decide ((k:Int)<(O.length:Int))=false) (h1:x=xn):∃ qs,alX Id' 12 5 [(17,svV (.bool xn))] [⟨.us (.ext (.vw [false,false,false,false,false] l)),false⟩,⟨.blk [.v (.int .i64 a),.v (.int .i64 b)],true⟩,⟨.bx [.obj 10],true⟩,⟨.dead,true⟩,⟨.bx [.obj 5],true⟩,⟨.us (.ext (.mp Z)),true⟩,⟨.dead,true⟩,⟨.us (.ext (.flat (.rw 72 [false,false,false] Y))),true⟩,⟨.us (.ins O),true⟩,⟨.dead,true⟩,⟨.us (.ext (.flat (.rw 72 [false,false,false] S))),true⟩,⟨.us (.ext (.flat (.rw 72 [false,false,false] S))),true⟩] ((symC (⟨Try.prog,[],[E_of Try.prog 57,E_of Try.prog 72],dkHo,Id'.one,60⟩:Sy Td) [] 198 (hdC (loopsC (bodyOf Try.f4)) 2) ⟨[(17,svV (.bool x)),(19,.c (.one (.v (.int .i64 (k:Int)))))]++anyB' (writesC (hdC (loopsC (bodyOf Try.f4)) 2)) ([(13,.c (.one (.obj 8))),(16,.c (.one (.v (.int .i64 c))))]++tabV f 198),[⟨.us (.ext (.vw [false,false,false,false,false] l)),false⟩,⟨.blk [.v (.int .i64 a),.v (.int .i64 b)],true⟩,⟨.bx [.obj 10],true⟩,⟨.dead,true⟩,⟨.bx [.obj 5],true⟩,⟨.us (.ext (.mp Z)),true⟩,⟨.dead,true⟩,⟨.us (.ext (.flat (.rw 72 [false,false,false] Y))),true⟩,⟨.us (.ins O),true⟩,⟨.dead,true⟩,⟨.us (.ext (.flat (.rw 72 [false,false,false] S))),true⟩,⟨.us (.ext (.flat (.rw 72 [false,false,false] S))),true⟩],0⟩).al [false])=some qs∧∀ q∈qs,q:=
 ⟨[decide ((↑k:Int)<(↑O.length:Int))=false,(Th.ext (Dk.vw [false,false,false,false,false] l):Td)=Th.ext (Dk.vw [false,false,false,false,false] l),Value.int IntKind.i64 a=Value.int IntKind.i64 a,Value.int IntKind.i64 b=Value.int IntKind.i64 b,(Th.ext (Dk.mp Z):Td)=Th.ext (Dk.mp Z),(Th.ext (Dk.flat (FL.rw 72 [false,false,false] Y)):Td)=Th.ext (Dk.flat (FL.rw 72 [false,false,false] Y)),(Th.ins O:Td)=Th.ins O,(Th.ext (Dk.flat (FL.rw 72 [false,false,false] S)):Td)=Th.ext (Dk.flat (FL.rw 72 [false,false,false] S)),(Th.ext (Dk.flat (FL.rw 72 [false,false,false] S)):Td)=Th.ext (Dk.flat (FL.rw 72 [false,false,false] S)),Value.bool x=Value.bool xn],by kernel_rfl,(by refine mcons ?_ (mcons ?_ (mcons ?_ (mcons ?_ (mcons ?_ (mcons ?_ (mcons ?_ (mcons ?_ (mcons ?_ (mcons ?_ mnil)))))))))<;>first|rfl|exact h0|exact h1|trivial|(exact fun _=>h2)|(exact congrArg (Value.int .i64) h1)|(exact congrArg Value.bool h3)|(exact congrArg Value.bool h1))⟩
set_option maxRecDepth 100000 in
theorem rn4_n (l:List Rw) (a b c:Int) (Y S:List Rw) (Z:List ((Int×Int)×Int)) (O:List Int) (x xn:Bool) (k:Nat) (f:Nat→Value) (h0:decide ((k:Int)<(Y.length:Int))=true) (h1:IntKind.i64.wrap ((k:Int)+1)=((k+1:Nat):Int)) (h2:0≤(k:Int)∧(k:Int).toNat<Y.length) (h3:(bif hitr a b c (Y.getD k Rw.zero) then false else x)=xn):∃ qs,alN Id' 12 [(18,svV (.bool xn)),(20,.c (.one (.v (.int .i64 ((k+1:Nat):Int)))))] [⟨.us (.ext (.vw [false,false,false,false,false] l)),false⟩,⟨.blk [.v (.int .i64 a),.v (.int .i64 b)],true⟩,⟨.bx [.obj 10],true⟩,⟨.dead,true⟩,⟨.bx [.obj 5],true⟩,⟨.us (.ext (.mp Z)),true⟩,⟨.dead,true⟩,⟨.us (.ext (.flat (.rw 72 [false,false,false] Y))),true⟩,⟨.us (.ins O),true⟩,⟨.dead,true⟩,⟨.us (.ext (.flat (.rw 72 [false,false,false] S))),true⟩,⟨.us (.ext (.flat (.rw 72 [false,false,false] S))),true⟩] ((symC (⟨Try.prog,[],[E_of Try.prog 57,E_of Try.prog 72],dkHo,Id'.one,60⟩:Sy Td) [] 198 (hdC (loopsC (bodyOf Try.f4)) 3) ⟨[(18,svV (.bool x)),(20,.c (.one (.v (.int .i64 (k:Int)))))]++anyB' (writesC (hdC (loopsC (bodyOf Try.f4)) 3)) ([(5,.c (.one (.ptr 1 0))),(12,.c (.one (.obj 7))),(16,.c (.one (.v (.int .i64 c))))]++tabV f 198),[⟨.us (.ext (.vw [false,false,false,false,false] l)),false⟩,⟨.blk [.v (.int .i64 a),.v (.int .i64 b)],true⟩,⟨.bx [.obj 10],true⟩,⟨.dead,true⟩,⟨.bx [.obj 5],true⟩,⟨.us (.ext (.mp Z)),true⟩,⟨.dead,true⟩,⟨.us (.ext (.flat (.rw 72 [false,false,false] Y))),true⟩,⟨.us (.ins O),true⟩,⟨.dead,true⟩,⟨.us (.ext (.flat (.rw 72 [false,false,false] S))),true⟩,⟨.us (.ext (.flat (.rw 72 [false,false,false] S))),true⟩],0⟩).al [true])=some qs∧∀ q∈qs,q:=
 ⟨[decide ((↑k:Int)<(↑(FL.rw 72 [false,false,false] Y).n:Int))=true,((Y.getD (↑k:Int).toNat Rw.zero).is.getD (0:Nat) (0:Int)==a&&((Y.getD (↑k:Int).toNat Rw.zero).is.getD ((0:Nat)+(1:Nat)) (0:Int)==b&&true)&&true)=true→(0:Int)≤(↑k:Int)∧(↑k:Int).toNat<(FL.rw 72 [false,false,false] Y).n,(0:Int)≤(↑k:Int)∧(↑k:Int).toNat<(FL.rw 72 [false,false,false] Y).n,(Th.ext (Dk.vw [false,false,false,false,false] l):Td)=Th.ext (Dk.vw [false,false,false,false,false] l),Value.int IntKind.i64 a=Value.int IntKind.i64 a,Value.int IntKind.i64 b=Value.int IntKind.i64 b,(Th.ext (Dk.mp Z):Td)=Th.ext (Dk.mp Z),(Th.ext (Dk.flat (FL.rw 72 [false,false,false] Y)):Td)=Th.ext (Dk.flat (FL.rw 72 [false,false,false] Y)),(Th.ins O:Td)=Th.ins O,(Th.ext (Dk.flat (FL.rw 72 [false,false,false] S)):Td)=Th.ext (Dk.flat (FL.rw 72 [false,false,false] S)),(Th.ext (Dk.flat (FL.rw 72 [false,false,false] S)):Td)=Th.ext (Dk.flat (FL.rw 72 [false,false,false] S)),Value.bool (bif (Y.getD (↑k:Int).toNat Rw.zero).is.getD (0:Nat) (0:Int)==a&&((Y.getD (↑k:Int).toNat Rw.zero).is.getD ((0:Nat)+(1:Nat)) (0:Int)==b&&true)&&(Y.getD (↑k:Int).toNat Rw.zero).is.getD ((0:Nat)+(1:Nat)+(1:Nat)) (0:Int)==c then false else x)=Value.bool xn,Value.int IntKind.i64 (IntKind.i64.wrap ((↑k:Int)+(1:Int)))=Value.int IntKind.i64 (↑(k+(1:Nat)):Int)],by kernel_rfl,(by refine mcons ?_ (mcons ?_ (mcons ?_ (mcons ?_ (mcons ?_ (mcons ?_ (mcons ?_ (mcons ?_ (mcons ?_ (mcons ?_ (mcons ?_ (mcons ?_ (mcons ?_ mnil))))))))))))<;>first|rfl|exact h0|exact h1|exact h2|exact h3|trivial|(exact fun _=>h2)|(exact congrArg (Value.int .i64) h1)|(exact congrArg Value.bool h3)|(exact congrArg Value.bool h1))⟩
set_option maxRecDepth 100000 in
theorem rn4_x (l:List Rw) (a b c:Int) (Y S:List Rw) (Z:List ((Int×Int)×Int)) (O:List Int) (x xn:Bool) (k:Nat) (f:Nat→Value) (h0:decide ((k:Int)<(Y.length:Int))=false) (h1:x=xn):∃ qs,alX Id' 12 7 [(18,svV (.bool xn))] [⟨.us (.ext (.vw [false,false,false,false,false] l)),false⟩,⟨.blk [.v (.int .i64 a),.v (.int .i64 b)],true⟩,⟨.bx [.obj 10],true⟩,⟨.dead,true⟩,⟨.bx [.obj 5],true⟩,⟨.us (.ext (.mp Z)),true⟩,⟨.dead,true⟩,⟨.us (.ext (.flat (.rw 72 [false,false,false] Y))),true⟩,⟨.us (.ins O),true⟩,⟨.dead,true⟩,⟨.us (.ext (.flat (.rw 72 [false,false,false] S))),true⟩,⟨.us (.ext (.flat (.rw 72 [false,false,false] S))),true⟩] ((symC (⟨Try.prog,[],[E_of Try.prog 57,E_of Try.prog 72],dkHo,Id'.one,60⟩:Sy Td) [] 198 (hdC (loopsC (bodyOf Try.f4)) 3) ⟨[(18,svV (.bool x)),(20,.c (.one (.v (.int .i64 (k:Int)))))]++anyB' (writesC (hdC (loopsC (bodyOf Try.f4)) 3)) ([(5,.c (.one (.ptr 1 0))),(12,.c (.one (.obj 7))),(16,.c (.one (.v (.int .i64 c))))]++tabV f 198),[⟨.us (.ext (.vw [false,false,false,false,false] l)),false⟩,⟨.blk [.v (.int .i64 a),.v (.int .i64 b)],true⟩,⟨.bx [.obj 10],true⟩,⟨.dead,true⟩,⟨.bx [.obj 5],true⟩,⟨.us (.ext (.mp Z)),true⟩,⟨.dead,true⟩,⟨.us (.ext (.flat (.rw 72 [false,false,false] Y))),true⟩,⟨.us (.ins O),true⟩,⟨.dead,true⟩,⟨.us (.ext (.flat (.rw 72 [false,false,false] S))),true⟩,⟨.us (.ext (.flat (.rw 72 [false,false,false] S))),true⟩],0⟩).al [false])=some qs∧∀ q∈qs,q:=
 ⟨[decide ((↑k:Int)<(↑(FL.rw 72 [false,false,false] Y).n:Int))=false,(Th.ext (Dk.vw [false,false,false,false,false] l):Td)=Th.ext (Dk.vw [false,false,false,false,false] l),Value.int IntKind.i64 a=Value.int IntKind.i64 a,Value.int IntKind.i64 b=Value.int IntKind.i64 b,(Th.ext (Dk.mp Z):Td)=Th.ext (Dk.mp Z),(Th.ext (Dk.flat (FL.rw 72 [false,false,false] Y)):Td)=Th.ext (Dk.flat (FL.rw 72 [false,false,false] Y)),(Th.ins O:Td)=Th.ins O,(Th.ext (Dk.flat (FL.rw 72 [false,false,false] S)):Td)=Th.ext (Dk.flat (FL.rw 72 [false,false,false] S)),(Th.ext (Dk.flat (FL.rw 72 [false,false,false] S)):Td)=Th.ext (Dk.flat (FL.rw 72 [false,false,false] S)),Value.bool x=Value.bool xn],by kernel_rfl,(by refine mcons ?_ (mcons ?_ (mcons ?_ (mcons ?_ (mcons ?_ (mcons ?_ (mcons ?_ (mcons ?_ (mcons ?_ (mcons ?_ mnil)))))))))<;>first|rfl|exact h0|exact h1|trivial|(exact fun _=>h2)|(exact congrArg (Value.int .i64) h1)|(exact congrArg Value.bool h3)|(exact congrArg Value.bool h1))⟩
set_option maxRecDepth 100000 in
theorem rn3_lp (l:List Rw) (a b c:Int) (Y S:List Rw) (Z:List ((Int×Int)×Int)) (O:List Int) (hb:O.length≤1000000) {W0:World} {G:Nat→Prop} (S0:Sy Td) (hS0:S0.P=Try.prog):LoopSound S0 Id' W0 G 198 (hdC (loopsC (bodyOf Try.f4)) 2) (lpG Id' 198 (hdC (loopsC (bodyOf Try.f4)) 2) 12 [(17,svV (.bool (wnO O c 0))),(19,.c (.one (.v (.int .i64 ((0:Nat):Int)))))] [(13,.c (.one (.obj 8))),(16,.c (.one (.v (.int .i64 c))))] [⟨.us (.ext (.vw [false,false,false,false,false] l)),false⟩,⟨.blk [.v (.int .i64 a),.v (.int .i64 b)],true⟩,⟨.bx [.obj 10],true⟩,⟨.dead,true⟩,⟨.bx [.obj 5],true⟩,⟨.us (.ext (.mp Z)),true⟩,⟨.dead,true⟩,⟨.us (.ext (.flat (.rw 72 [false,false,false] Y))),true⟩,⟨.us (.ins O),true⟩,⟨.dead,true⟩,⟨.us (.ext (.flat (.rw 72 [false,false,false] S))),true⟩,⟨.us (.ext (.flat (.rw 72 [false,false,false] S))),true⟩] (.leaf (.exit 5) [(17,svV (.bool (wnO O c O.length)))] [⟨.us (.ext (.vw [false,false,false,false,false] l)),false⟩,⟨.blk [.v (.int .i64 a),.v (.int .i64 b)],true⟩,⟨.bx [.obj 10],true⟩,⟨.dead,true⟩,⟨.bx [.obj 5],true⟩,⟨.us (.ext (.mp Z)),true⟩,⟨.dead,true⟩,⟨.us (.ext (.flat (.rw 72 [false,false,false] Y))),true⟩,⟨.us (.ins O),true⟩,⟨.dead,true⟩,⟨.us (.ext (.flat (.rw 72 [false,false,false] S))),true⟩,⟨.us (.ext (.flat (.rw 72 [false,false,false] S))),true⟩])):=by
 refine lp_sound (V:=fun k=>[(17,svV (.bool (wnO O c k))),(19,.c (.one (.v (.int .i64 (k:Int)))))]) (M:=(fun k=>[⟨.us (.ext (.vw [false,false,false,false,false] l)),false⟩,⟨.blk [.v (.int .i64 a),.v (.int .i64 b)],true⟩,⟨.bx [.obj 10],true⟩,⟨.dead,true⟩,⟨.bx [.obj 5],true⟩,⟨.us (.ext (.mp Z)),true⟩,⟨.dead,true⟩,⟨.us (.ext (.flat (.rw 72 [false,false,false] Y))),true⟩,⟨.us (.ins O),true⟩,⟨.dead,true⟩,⟨.us (.ext (.flat (.rw 72 [false,false,false] S))),true⟩,⟨.us (.ext (.flat (.rw 72 [false,false,false] S))),true⟩]:Nat→Mem Td)) (N:=1000001) (Ux:=fun k x=>match x with|.exit 5=>some ([(17,svV (.bool (wnO O c O.length)))],([⟨.us (.ext (.vw [false,false,false,false,false] l)),false⟩,⟨.blk [.v (.int .i64 a),.v (.int .i64 b)],true⟩,⟨.bx [.obj 10],true⟩,⟨.dead,true⟩,⟨.bx [.obj 5],true⟩,⟨.us (.ext (.mp Z)),true⟩,⟨.dead,true⟩,⟨.us (.ext (.flat (.rw 72 [false,false,false] Y))),true⟩,⟨.us (.ins O),true⟩,⟨.dead,true⟩,⟨.us (.ext (.flat (.rw 72 [false,false,false] S))),true⟩,⟨.us (.ext (.flat (.rw 72 [false,false,false] S))),true⟩]:Mem Td))|_=>none) (X:=fun _ _=>True) (J:=fun k=>k≤O.length) (fun k=>by kernel_rfl) (Nat.zero_le _) (fun k hk hJ f=>?_) (fun K hK k x U hk hU hX=>?_)
 ·rw [hS0]
  cases hT:decide ((k:Int)<(O.length:Int)) with
  |false=>
   have hk1:k=O.length:=by have:=of_decide_eq_false hT;omega
   exact rnd_xD (⟨Try.prog,[],[E_of Try.prog 57,E_of Try.prog 72],dkHo,Id'.one,60⟩:Sy Td) rfl ((fun (W0:World) (G:Nat→Prop)=>SyOk.mk2 Try.mixed dkHo_ok (FnsR.nil) (E_of_ok (by kernel_rfl) (E_of_ok (by kernel_rfl) (EqsOk.nil)))) W0 G) (rn3_x l a b c Y S Z O _ _ k f hT (by rw [hk1])) rfl trivial
  |true=>
   have hk1:k<O.length:=by have:=of_decide_eq_true hT;omega
   have hW:IntKind.i64.wrap ((k:Int)+1)=((k+1:Nat):Int):=by rw [IntWalk.i64_in _ (by omega)];omega
   exact rnd_nD (⟨Try.prog,[],[E_of Try.prog 57,E_of Try.prog 72],dkHo,Id'.one,60⟩:Sy Td) rfl ((fun (W0:World) (G:Nat→Prop)=>SyOk.mk2 Try.mixed dkHo_ok (FnsR.nil) (E_of_ok (by kernel_rfl) (E_of_ok (by kernel_rfl) (EqsOk.nil)))) W0 G) (rn3_n l a b c Y S Z O _ _ k f hT hW ⟨by omega,by omega⟩ rfl) rfl rfl (by omega) (by omega)
 ·revert hU
  match x with
  |.normal=>intro hU;cases hU
  |.ret=>intro hU;cases hU
  |.exit n=>
   intro hU
   by_cases h:n=5
   ·subst h;simp only [Option.some.injEq] at hU;subst hU;exact hK
   ·exfalso;split at hU
    ·rename_i he;cases he;exact h rfl
    ·cases hU
set_option maxRecDepth 100000 in
theorem rn4_lp (l:List Rw) (a b c:Int) (Y S:List Rw) (Z:List ((Int×Int)×Int)) (O:List Int) (hb:Y.length≤1000000) {W0:World} {G:Nat→Prop} (S0:Sy Td) (hS0:S0.P=Try.prog):LoopSound S0 Id' W0 G 198 (hdC (loopsC (bodyOf Try.f4)) 3) (lpG Id' 198 (hdC (loopsC (bodyOf Try.f4)) 3) 12 [(18,svV (.bool (frO Y a b c 0))),(20,.c (.one (.v (.int .i64 ((0:Nat):Int)))))] [(5,.c (.one (.ptr 1 0))),(12,.c (.one (.obj 7))),(16,.c (.one (.v (.int .i64 c))))] [⟨.us (.ext (.vw [false,false,false,false,false] l)),false⟩,⟨.blk [.v (.int .i64 a),.v (.int .i64 b)],true⟩,⟨.bx [.obj 10],true⟩,⟨.dead,true⟩,⟨.bx [.obj 5],true⟩,⟨.us (.ext (.mp Z)),true⟩,⟨.dead,true⟩,⟨.us (.ext (.flat (.rw 72 [false,false,false] Y))),true⟩,⟨.us (.ins O),true⟩,⟨.dead,true⟩,⟨.us (.ext (.flat (.rw 72 [false,false,false] S))),true⟩,⟨.us (.ext (.flat (.rw 72 [false,false,false] S))),true⟩] (.leaf (.exit 7) [(18,svV (.bool (frO Y a b c Y.length)))] [⟨.us (.ext (.vw [false,false,false,false,false] l)),false⟩,⟨.blk [.v (.int .i64 a),.v (.int .i64 b)],true⟩,⟨.bx [.obj 10],true⟩,⟨.dead,true⟩,⟨.bx [.obj 5],true⟩,⟨.us (.ext (.mp Z)),true⟩,⟨.dead,true⟩,⟨.us (.ext (.flat (.rw 72 [false,false,false] Y))),true⟩,⟨.us (.ins O),true⟩,⟨.dead,true⟩,⟨.us (.ext (.flat (.rw 72 [false,false,false] S))),true⟩,⟨.us (.ext (.flat (.rw 72 [false,false,false] S))),true⟩])):=by
 refine lp_sound (V:=fun k=>[(18,svV (.bool (frO Y a b c k))),(20,.c (.one (.v (.int .i64 (k:Int)))))]) (M:=(fun k=>[⟨.us (.ext (.vw [false,false,false,false,false] l)),false⟩,⟨.blk [.v (.int .i64 a),.v (.int .i64 b)],true⟩,⟨.bx [.obj 10],true⟩,⟨.dead,true⟩,⟨.bx [.obj 5],true⟩,⟨.us (.ext (.mp Z)),true⟩,⟨.dead,true⟩,⟨.us (.ext (.flat (.rw 72 [false,false,false] Y))),true⟩,⟨.us (.ins O),true⟩,⟨.dead,true⟩,⟨.us (.ext (.flat (.rw 72 [false,false,false] S))),true⟩,⟨.us (.ext (.flat (.rw 72 [false,false,false] S))),true⟩]:Nat→Mem Td)) (N:=1000001) (Ux:=fun k x=>match x with|.exit 7=>some ([(18,svV (.bool (frO Y a b c Y.length)))],([⟨.us (.ext (.vw [false,false,false,false,false] l)),false⟩,⟨.blk [.v (.int .i64 a),.v (.int .i64 b)],true⟩,⟨.bx [.obj 10],true⟩,⟨.dead,true⟩,⟨.bx [.obj 5],true⟩,⟨.us (.ext (.mp Z)),true⟩,⟨.dead,true⟩,⟨.us (.ext (.flat (.rw 72 [false,false,false] Y))),true⟩,⟨.us (.ins O),true⟩,⟨.dead,true⟩,⟨.us (.ext (.flat (.rw 72 [false,false,false] S))),true⟩,⟨.us (.ext (.flat (.rw 72 [false,false,false] S))),true⟩]:Mem Td))|_=>none) (X:=fun _ _=>True) (J:=fun k=>k≤Y.length) (fun k=>by kernel_rfl) (Nat.zero_le _) (fun k hk hJ f=>?_) (fun K hK k x U hk hU hX=>?_)
 ·rw [hS0]
  cases hT:decide ((k:Int)<(Y.length:Int)) with
  |false=>
   have hk1:k=Y.length:=by have:=of_decide_eq_false hT;omega
   exact rnd_xD (⟨Try.prog,[],[E_of Try.prog 57,E_of Try.prog 72],dkHo,Id'.one,60⟩:Sy Td) rfl ((fun (W0:World) (G:Nat→Prop)=>SyOk.mk2 Try.mixed dkHo_ok (FnsR.nil) (E_of_ok (by kernel_rfl) (E_of_ok (by kernel_rfl) (EqsOk.nil)))) W0 G) (rn4_x l a b c Y S Z O _ _ k f hT (by rw [hk1])) rfl trivial
  |true=>
   have hk1:k<Y.length:=by have:=of_decide_eq_true hT;omega
   have hW:IntKind.i64.wrap ((k:Int)+1)=((k+1:Nat):Int):=by rw [IntWalk.i64_in _ (by omega)];omega
   exact rnd_nD (⟨Try.prog,[],[E_of Try.prog 57,E_of Try.prog 72],dkHo,Id'.one,60⟩:Sy Td) rfl ((fun (W0:World) (G:Nat→Prop)=>SyOk.mk2 Try.mixed dkHo_ok (FnsR.nil) (E_of_ok (by kernel_rfl) (E_of_ok (by kernel_rfl) (EqsOk.nil)))) W0 G) (rn4_n l a b c Y S Z O _ _ k f hT hW ⟨by omega,by omega⟩ rfl) rfl rfl (by omega) (by omega)
 ·revert hU
  match x with
  |.normal=>intro hU;cases hU
  |.ret=>intro hU;cases hU
  |.exit n=>
   intro hU
   by_cases h:n=7
   ·subst h;simp only [Option.some.injEq] at hU;subst hU;exact hK
   ·exfalso;split at hU
    ·rename_i he;cases he;exact h rfl
    ·cases hU
end Go.Proofs.Ytdenmoiaiemokaa
set_option linter.unusedVariables false
set_option linter.unusedSimpArgs false
namespace Go.Proofs.Ytdenmoiaiemokaa
open Go.RowKit
set_option maxRecDepth 100000 in
theorem rn8_n (l:List Rw) (a b:Int) (Y S:List Rw) (Z:List ((Int×Int)×Int)) (O:List Int) (n nn:Int) (k:Nat) (f:Nat→Value) (h0:decide ((k:Int)<8)=true) (h1:IntKind.i64.wrap ((k:Int)+1)=((k+1:Nat):Int)) (h2:(!hsE S a b (k:Int)==(wnO O (k:Int) O.length||!frO Y a b (k:Int) Y.length&&mdE Z a b (k:Int) != 0))=false) (h3:(bif wnO O (k:Int) O.length&&frO Y a b (k:Int) Y.length then IntKind.i64.wrap (n - 1) else n)=nn) (h4:S.length≤100000):∃ qs,alN Id' 12 [(14,.c (.one (.v (.int .i64 nn)))),(16,.c (.one (.v (.int .i64 ((k+1:Nat):Int)))))] [⟨.us (.ext (.vw [false,false,false,false,false] l)),false⟩,⟨.blk [.v (.int .i64 a),.v (.int .i64 b)],true⟩,⟨.bx [.obj 10],true⟩,⟨.dead,true⟩,⟨.bx [.obj 5],true⟩,⟨.us (.ext (.mp Z)),true⟩,⟨.dead,true⟩,⟨.us (.ext (.flat (.rw 72 [false,false,false] Y))),true⟩,⟨.us (.ins O),true⟩,⟨.dead,true⟩,⟨.us (.ext (.flat (.rw 72 [false,false,false] S))),true⟩,⟨.us (.ext (.flat (.rw 72 [false,false,false] S))),true⟩] ((symC (⟨Try.prog,[(42,ctrV C_phs hardD),(43,ctrV C_tmd hardD)],[E_of Try.prog 57,E_of Try.prog 72],dkHo,Id'.one,60⟩:Sy Td) [(22,(lpG Id' 198 (hdC (loopsC (bodyOf Try.f4)) 2) 12 [(17,svV (.bool (wnO O (k:Int) 0))),(19,.c (.one (.v (.int .i64 ((0:Nat):Int)))))] [(13,.c (.one (.obj 8))),(16,.c (.one (.v (.int .i64 (k:Int)))))] [⟨.us (.ext (.vw [false,false,false,false,false] l)),false⟩,⟨.blk [.v (.int .i64 a),.v (.int .i64 b)],true⟩,⟨.bx [.obj 10],true⟩,⟨.dead,true⟩,⟨.bx [.obj 5],true⟩,⟨.us (.ext (.mp Z)),true⟩,⟨.dead,true⟩,⟨.us (.ext (.flat (.rw 72 [false,false,false] Y))),true⟩,⟨.us (.ins O),true⟩,⟨.dead,true⟩,⟨.us (.ext (.flat (.rw 72 [false,false,false] S))),true⟩,⟨.us (.ext (.flat (.rw 72 [false,false,false] S))),true⟩] (.leaf (.exit 5) [(17,svV (.bool (wnO O (k:Int) O.length)))] [⟨.us (.ext (.vw [false,false,false,false,false] l)),false⟩,⟨.blk [.v (.int .i64 a),.v (.int .i64 b)],true⟩,⟨.bx [.obj 10],true⟩,⟨.dead,true⟩,⟨.bx [.obj 5],true⟩,⟨.us (.ext (.mp Z)),true⟩,⟨.dead,true⟩,⟨.us (.ext (.flat (.rw 72 [false,false,false] Y))),true⟩,⟨.us (.ins O),true⟩,⟨.dead,true⟩,⟨.us (.ext (.flat (.rw 72 [false,false,false] S))),true⟩,⟨.us (.ext (.flat (.rw 72 [false,false,false] S))),true⟩]))),(26,(lpG Id' 198 (hdC (loopsC (bodyOf Try.f4)) 3) 12 [(18,svV (.bool (frO Y a b (k:Int) 0))),(20,.c (.one (.v (.int .i64 ((0:Nat):Int)))))] [(5,.c (.one (.ptr 1 0))),(12,.c (.one (.obj 7))),(16,.c (.one (.v (.int .i64 (k:Int)))))] [⟨.us (.ext (.vw [false,false,false,false,false] l)),false⟩,⟨.blk [.v (.int .i64 a),.v (.int .i64 b)],true⟩,⟨.bx [.obj 10],true⟩,⟨.dead,true⟩,⟨.bx [.obj 5],true⟩,⟨.us (.ext (.mp Z)),true⟩,⟨.dead,true⟩,⟨.us (.ext (.flat (.rw 72 [false,false,false] Y))),true⟩,⟨.us (.ins O),true⟩,⟨.dead,true⟩,⟨.us (.ext (.flat (.rw 72 [false,false,false] S))),true⟩,⟨.us (.ext (.flat (.rw 72 [false,false,false] S))),true⟩] (.leaf (.exit 7) [(18,svV (.bool (frO Y a b (k:Int) Y.length)))] [⟨.us (.ext (.vw [false,false,false,false,false] l)),false⟩,⟨.blk [.v (.int .i64 a),.v (.int .i64 b)],true⟩,⟨.bx [.obj 10],true⟩,⟨.dead,true⟩,⟨.bx [.obj 5],true⟩,⟨.us (.ext (.mp Z)),true⟩,⟨.dead,true⟩,⟨.us (.ext (.flat (.rw 72 [false,false,false] Y))),true⟩,⟨.us (.ins O),true⟩,⟨.dead,true⟩,⟨.us (.ext (.flat (.rw 72 [false,false,false] S))),true⟩,⟨.us (.ext (.flat (.rw 72 [false,false,false] S))),true⟩])))] 198 (hdC (loopsC (bodyOf Try.f4)) 1) ⟨[(14,.c (.one (.v (.int .i64 n)))),(16,.c (.one (.v (.int .i64 (k:Int)))))]++anyB' (writesC (hdC (loopsC (bodyOf Try.f4)) 1)) ([(5,.c (.one (.ptr 1 0))),(9,.c (.one (.ptr 2 0))),(10,.c (.one (.ptr 4 0))),(12,.c (.one (.obj 7))),(13,.c (.one (.obj 8)))]++tabV f 198),[⟨.us (.ext (.vw [false,false,false,false,false] l)),false⟩,⟨.blk [.v (.int .i64 a),.v (.int .i64 b)],true⟩,⟨.bx [.obj 10],true⟩,⟨.dead,true⟩,⟨.bx [.obj 5],true⟩,⟨.us (.ext (.mp Z)),true⟩,⟨.dead,true⟩,⟨.us (.ext (.flat (.rw 72 [false,false,false] Y))),true⟩,⟨.us (.ins O),true⟩,⟨.dead,true⟩,⟨.us (.ext (.flat (.rw 72 [false,false,false] S))),true⟩,⟨.us (.ext (.flat (.rw 72 [false,false,false] S))),true⟩],0⟩).al [true,false])=some qs∧∀ q∈qs,q:=
 ⟨[decide ((↑k:Int)<(8:Int))=true,Value.int IntKind.i64 (↑k:Int)=Value.int IntKind.i64 (↑k:Int),(Th.ext (Dk.vw [false,false,false,false,false] l):Td)=Th.ext (Dk.vw [false,false,false,false,false] l),Value.int IntKind.i64 a=Value.int IntKind.i64 a,Value.int IntKind.i64 b=Value.int IntKind.i64 b,(Th.ext (Dk.mp Z):Td)=Th.ext (Dk.mp Z),(Th.ext (Dk.flat (FL.rw 72 [false,false,false] Y)):Td)=Th.ext (Dk.flat (FL.rw 72 [false,false,false] Y)),(Th.ins O:Td)=Th.ins O,(Th.ext (Dk.flat (FL.rw 72 [false,false,false] S)):Td)=Th.ext (Dk.flat (FL.rw 72 [false,false,false] S)),(Th.ext (Dk.flat (FL.rw 72 [false,false,false] S)):Td)=Th.ext (Dk.flat (FL.rw 72 [false,false,false] S)),Value.bool false=Value.bool false,Value.int IntKind.i64 (Int.ofNat 0)=Value.int IntKind.i64 (Int.ofNat (0:Nat)),Value.int IntKind.i64 (↑k:Int)=Value.int IntKind.i64 (↑k:Int),(Th.ext (Dk.vw [false,false,false,false,false] l):Td)=Th.ext (Dk.vw [false,false,false,false,false] l),Value.int IntKind.i64 a=Value.int IntKind.i64 a,Value.int IntKind.i64 b=Value.int IntKind.i64 b,(Th.ext (Dk.mp Z):Td)=Th.ext (Dk.mp Z),(Th.ext (Dk.flat (FL.rw 72 [false,false,false] Y)):Td)=Th.ext (Dk.flat (FL.rw 72 [false,false,false] Y)),(Th.ins O:Td)=Th.ins O,(Th.ext (Dk.flat (FL.rw 72 [false,false,false] S)):Td)=Th.ext (Dk.flat (FL.rw 72 [false,false,false] S)),(Th.ext (Dk.flat (FL.rw 72 [false,false,false] S)):Td)=Th.ext (Dk.flat (FL.rw 72 [false,false,false] S)),Value.bool true=Value.bool true,Value.int IntKind.i64 (Int.ofNat 0)=Value.int IntKind.i64 (Int.ofNat (0:Nat)),S.length≤(100000:Nat),(!hsE S a b (↑k:Int)==(wnO O (↑k:Int) O.length||!frO Y a b (↑k:Int) Y.length&&mdE Z a b (↑k:Int) != (0:Int)))=false,(Th.ext (Dk.vw [false,false,false,false,false] l):Td)=Th.ext (Dk.vw [false,false,false,false,false] l),Value.int IntKind.i64 a=Value.int IntKind.i64 a,Value.int IntKind.i64 b=Value.int IntKind.i64 b,(Th.ext (Dk.mp Z):Td)=Th.ext (Dk.mp Z),(Th.ext (Dk.flat (FL.rw 72 [false,false,false] Y)):Td)=Th.ext (Dk.flat (FL.rw 72 [false,false,false] Y)),(Th.ins O:Td)=Th.ins O,(Th.ext (Dk.flat (FL.rw 72 [false,false,false] S)):Td)=Th.ext (Dk.flat (FL.rw 72 [false,false,false] S)),(Th.ext (Dk.flat (FL.rw 72 [false,false,false] S)):Td)=Th.ext (Dk.flat (FL.rw 72 [false,false,false] S)),Value.int IntKind.i64 (bif wnO O (↑k:Int) O.length&&frO Y a b (↑k:Int) Y.length then IntKind.i64.wrap (n - (1:Int)) else n)=Value.int IntKind.i64 nn,Value.int IntKind.i64 (IntKind.i64.wrap ((↑k:Int)+(1:Int)))=Value.int IntKind.i64 (↑(k+(1:Nat)):Int)],by kernel_rfl,(by refine mcons ?_ (mcons ?_ (mcons ?_ (mcons ?_ (mcons ?_ (mcons ?_ (mcons ?_ (mcons ?_ (mcons ?_ (mcons ?_ (mcons ?_ (mcons ?_ (mcons ?_ (mcons ?_ (mcons ?_ (mcons ?_ (mcons ?_ (mcons ?_ (mcons ?_ (mcons ?_ (mcons ?_ (mcons ?_ (mcons ?_ (mcons ?_ (mcons ?_ (mcons ?_ (mcons ?_ (mcons ?_ (mcons ?_ (mcons ?_ (mcons ?_ (mcons ?_ (mcons ?_ (mcons ?_ (mcons ?_ mnil))))))))))))))))))))))))))))))))))<;>first|rfl|exact h0|exact h1|exact h2|exact h3|exact h4|trivial|(exact congrArg (Value.int .i64) h1)|(exact congrArg (Value.int .i64) h3)|(exact ⟨by omega,by omega⟩)|(exact fun _=>h4))⟩
set_option maxRecDepth 100000 in
theorem rn8_x (l:List Rw) (a b:Int) (Y S:List Rw) (Z:List ((Int×Int)×Int)) (O:List Int) (n nn:Int) (k:Nat) (f:Nat→Value) (h0:decide ((k:Int)<8)=false):∃ qs,alX Id' 12 3 [(14,.c (.one (.v (.int .i64 n))))] [⟨.us (.ext (.vw [false,false,false,false,false] l)),false⟩,⟨.blk [.v (.int .i64 a),.v (.int .i64 b)],true⟩,⟨.bx [.obj 10],true⟩,⟨.dead,true⟩,⟨.bx [.obj 5],true⟩,⟨.us (.ext (.mp Z)),true⟩,⟨.dead,true⟩,⟨.us (.ext (.flat (.rw 72 [false,false,false] Y))),true⟩,⟨.us (.ins O),true⟩,⟨.dead,true⟩,⟨.us (.ext (.flat (.rw 72 [false,false,false] S))),true⟩,⟨.us (.ext (.flat (.rw 72 [false,false,false] S))),true⟩] ((symC (⟨Try.prog,[(42,ctrV C_phs hardD),(43,ctrV C_tmd hardD)],[E_of Try.prog 57,E_of Try.prog 72],dkHo,Id'.one,60⟩:Sy Td) [(22,(lpG Id' 198 (hdC (loopsC (bodyOf Try.f4)) 2) 12 [(17,svV (.bool (wnO O (k:Int) 0))),(19,.c (.one (.v (.int .i64 ((0:Nat):Int)))))] [(13,.c (.one (.obj 8))),(16,.c (.one (.v (.int .i64 (k:Int)))))] [⟨.us (.ext (.vw [false,false,false,false,false] l)),false⟩,⟨.blk [.v (.int .i64 a),.v (.int .i64 b)],true⟩,⟨.bx [.obj 10],true⟩,⟨.dead,true⟩,⟨.bx [.obj 5],true⟩,⟨.us (.ext (.mp Z)),true⟩,⟨.dead,true⟩,⟨.us (.ext (.flat (.rw 72 [false,false,false] Y))),true⟩,⟨.us (.ins O),true⟩,⟨.dead,true⟩,⟨.us (.ext (.flat (.rw 72 [false,false,false] S))),true⟩,⟨.us (.ext (.flat (.rw 72 [false,false,false] S))),true⟩] (.leaf (.exit 5) [(17,svV (.bool (wnO O (k:Int) O.length)))] [⟨.us (.ext (.vw [false,false,false,false,false] l)),false⟩,⟨.blk [.v (.int .i64 a),.v (.int .i64 b)],true⟩,⟨.bx [.obj 10],true⟩,⟨.dead,true⟩,⟨.bx [.obj 5],true⟩,⟨.us (.ext (.mp Z)),true⟩,⟨.dead,true⟩,⟨.us (.ext (.flat (.rw 72 [false,false,false] Y))),true⟩,⟨.us (.ins O),true⟩,⟨.dead,true⟩,⟨.us (.ext (.flat (.rw 72 [false,false,false] S))),true⟩,⟨.us (.ext (.flat (.rw 72 [false,false,false] S))),true⟩]))),(26,(lpG Id' 198 (hdC (loopsC (bodyOf Try.f4)) 3) 12 [(18,svV (.bool (frO Y a b (k:Int) 0))),(20,.c (.one (.v (.int .i64 ((0:Nat):Int)))))] [(5,.c (.one (.ptr 1 0))),(12,.c (.one (.obj 7))),(16,.c (.one (.v (.int .i64 (k:Int)))))] [⟨.us (.ext (.vw [false,false,false,false,false] l)),false⟩,⟨.blk [.v (.int .i64 a),.v (.int .i64 b)],true⟩,⟨.bx [.obj 10],true⟩,⟨.dead,true⟩,⟨.bx [.obj 5],true⟩,⟨.us (.ext (.mp Z)),true⟩,⟨.dead,true⟩,⟨.us (.ext (.flat (.rw 72 [false,false,false] Y))),true⟩,⟨.us (.ins O),true⟩,⟨.dead,true⟩,⟨.us (.ext (.flat (.rw 72 [false,false,false] S))),true⟩,⟨.us (.ext (.flat (.rw 72 [false,false,false] S))),true⟩] (.leaf (.exit 7) [(18,svV (.bool (frO Y a b (k:Int) Y.length)))] [⟨.us (.ext (.vw [false,false,false,false,false] l)),false⟩,⟨.blk [.v (.int .i64 a),.v (.int .i64 b)],true⟩,⟨.bx [.obj 10],true⟩,⟨.dead,true⟩,⟨.bx [.obj 5],true⟩,⟨.us (.ext (.mp Z)),true⟩,⟨.dead,true⟩,⟨.us (.ext (.flat (.rw 72 [false,false,false] Y))),true⟩,⟨.us (.ins O),true⟩,⟨.dead,true⟩,⟨.us (.ext (.flat (.rw 72 [false,false,false] S))),true⟩,⟨.us (.ext (.flat (.rw 72 [false,false,false] S))),true⟩])))] 198 (hdC (loopsC (bodyOf Try.f4)) 1) ⟨[(14,.c (.one (.v (.int .i64 n)))),(16,.c (.one (.v (.int .i64 (k:Int)))))]++anyB' (writesC (hdC (loopsC (bodyOf Try.f4)) 1)) ([(5,.c (.one (.ptr 1 0))),(9,.c (.one (.ptr 2 0))),(10,.c (.one (.ptr 4 0))),(12,.c (.one (.obj 7))),(13,.c (.one (.obj 8)))]++tabV f 198),[⟨.us (.ext (.vw [false,false,false,false,false] l)),false⟩,⟨.blk [.v (.int .i64 a),.v (.int .i64 b)],true⟩,⟨.bx [.obj 10],true⟩,⟨.dead,true⟩,⟨.bx [.obj 5],true⟩,⟨.us (.ext (.mp Z)),true⟩,⟨.dead,true⟩,⟨.us (.ext (.flat (.rw 72 [false,false,false] Y))),true⟩,⟨.us (.ins O),true⟩,⟨.dead,true⟩,⟨.us (.ext (.flat (.rw 72 [false,false,false] S))),true⟩,⟨.us (.ext (.flat (.rw 72 [false,false,false] S))),true⟩],0⟩).al [false])=some qs∧∀ q∈qs,q:=
 ⟨[decide ((↑k:Int)<(8:Int))=false,(Th.ext (Dk.vw [false,false,false,false,false] l):Td)=Th.ext (Dk.vw [false,false,false,false,false] l),Value.int IntKind.i64 a=Value.int IntKind.i64 a,Value.int IntKind.i64 b=Value.int IntKind.i64 b,(Th.ext (Dk.mp Z):Td)=Th.ext (Dk.mp Z),(Th.ext (Dk.flat (FL.rw 72 [false,false,false] Y)):Td)=Th.ext (Dk.flat (FL.rw 72 [false,false,false] Y)),(Th.ins O:Td)=Th.ins O,(Th.ext (Dk.flat (FL.rw 72 [false,false,false] S)):Td)=Th.ext (Dk.flat (FL.rw 72 [false,false,false] S)),(Th.ext (Dk.flat (FL.rw 72 [false,false,false] S)):Td)=Th.ext (Dk.flat (FL.rw 72 [false,false,false] S)),Value.int IntKind.i64 n=Value.int IntKind.i64 n],by kernel_rfl,(by refine mcons ?_ (mcons ?_ (mcons ?_ (mcons ?_ (mcons ?_ (mcons ?_ (mcons ?_ (mcons ?_ (mcons ?_ (mcons ?_ mnil)))))))))<;>first|rfl|exact h0|trivial|(exact congrArg (Value.int .i64) h1)|(exact congrArg (Value.int .i64) h3)|(exact ⟨by omega,by omega⟩)|(exact fun _=>h4))⟩
set_option maxRecDepth 100000 in
theorem rn9_n (l:List Rw) (a b:Int) (Y S:List Rw) (Z:List ((Int×Int)×Int)) (O:List Int) (k:Nat) (f:Nat→Value) (h0:decide ((k:Int)<(S.length:Int))=true) (h1:IntKind.i64.wrap ((k:Int)+1)=((k+1:Nat):Int)) (h2:0≤(k:Int)∧(k:Int).toNat<S.length) (h3:(mdE Z ((S.getD k Rw.zero).is.getD 0 0) ((S.getD k Rw.zero).is.getD 1 0) ((S.getD k Rw.zero).is.getD 2 0)==0)=false):∃ qs,alN Id' 12 [(21,.c (.one (.v (.int .i64 ((k+1:Nat):Int)))))] [⟨.us (.ext (.vw [false,false,false,false,false] l)),false⟩,⟨.blk [.v (.int .i64 a),.v (.int .i64 b)],true⟩,⟨.bx [.obj 10],true⟩,⟨.dead,true⟩,⟨.bx [.obj 5],true⟩,⟨.us (.ext (.mp Z)),true⟩,⟨.dead,true⟩,⟨.us (.ext (.flat (.rw 72 [false,false,false] Y))),true⟩,⟨.us (.ins O),true⟩,⟨.dead,true⟩,⟨.us (.ext (.flat (.rw 72 [false,false,false] S))),true⟩,⟨.us (.ext (.flat (.rw 72 [false,false,false] S))),true⟩] ((symC (⟨Try.prog,[(43,ctrV C_tmd hardD)],[E_of Try.prog 57,E_of Try.prog 72],dkHo,Id'.one,60⟩:Sy Td) [] 198 (hdC (loopsC (bodyOf Try.f4)) 4) ⟨[(21,.c (.one (.v (.int .i64 (k:Int)))))]++anyB' (writesC (hdC (loopsC (bodyOf Try.f4)) 4)) ([(10,.c (.one (.ptr 4 0))),(15,.c (.one (.obj 11)))]++tabV f 198),[⟨.us (.ext (.vw [false,false,false,false,false] l)),false⟩,⟨.blk [.v (.int .i64 a),.v (.int .i64 b)],true⟩,⟨.bx [.obj 10],true⟩,⟨.dead,true⟩,⟨.bx [.obj 5],true⟩,⟨.us (.ext (.mp Z)),true⟩,⟨.dead,true⟩,⟨.us (.ext (.flat (.rw 72 [false,false,false] Y))),true⟩,⟨.us (.ins O),true⟩,⟨.dead,true⟩,⟨.us (.ext (.flat (.rw 72 [false,false,false] S))),true⟩,⟨.us (.ext (.flat (.rw 72 [false,false,false] S))),true⟩],0⟩).al [true,false])=some qs∧∀ q∈qs,q:=
 ⟨[decide ((↑k:Int)<(↑(FL.rw 72 [false,false,false] S).n:Int))=true,(0:Int)≤(↑k:Int)∧(↑k:Int).toNat<(FL.rw 72 [false,false,false] S).n,(0:Int)≤(↑k:Int)∧(↑k:Int).toNat<(FL.rw 72 [false,false,false] S).n,(mdE Z ((S.getD (↑k:Int).toNat Rw.zero).is.getD (0:Nat) (0:Int)) ((S.getD (↑k:Int).toNat Rw.zero).is.getD ((0:Nat)+(1:Nat)) (0:Int)) ((S.getD (↑k:Int).toNat Rw.zero).is.getD ((0:Nat)+(1:Nat)+(1:Nat)) (0:Int))==(0:Int))=false,(Th.ext (Dk.vw [false,false,false,false,false] l):Td)=Th.ext (Dk.vw [false,false,false,false,false] l),Value.int IntKind.i64 a=Value.int IntKind.i64 a,Value.int IntKind.i64 b=Value.int IntKind.i64 b,(Th.ext (Dk.mp Z):Td)=Th.ext (Dk.mp Z),(Th.ext (Dk.flat (FL.rw 72 [false,false,false] Y)):Td)=Th.ext (Dk.flat (FL.rw 72 [false,false,false] Y)),(Th.ins O:Td)=Th.ins O,(Th.ext (Dk.flat (FL.rw 72 [false,false,false] S)):Td)=Th.ext (Dk.flat (FL.rw 72 [false,false,false] S)),(Th.ext (Dk.flat (FL.rw 72 [false,false,false] S)):Td)=Th.ext (Dk.flat (FL.rw 72 [false,false,false] S)),Value.int IntKind.i64 (IntKind.i64.wrap ((↑k:Int)+(1:Int)))=Value.int IntKind.i64 (↑(k+(1:Nat)):Int)],by kernel_rfl,(by refine mcons ?_ (mcons ?_ (mcons ?_ (mcons ?_ (mcons ?_ (mcons ?_ (mcons ?_ (mcons ?_ (mcons ?_ (mcons ?_ (mcons ?_ (mcons ?_ (mcons ?_ mnil))))))))))))<;>first|rfl|exact h0|exact h1|exact h2|exact h3|trivial|(exact congrArg (Value.int .i64) h1)|(exact congrArg (Value.int .i64) h3)|(exact ⟨by omega,by omega⟩)|(exact fun _=>h4))⟩
set_option maxRecDepth 100000 in
theorem rn9_x (l:List Rw) (a b:Int) (Y S:List Rw) (Z:List ((Int×Int)×Int)) (O:List Int) (k:Nat) (f:Nat→Value) (h0:decide ((k:Int)<(S.length:Int))=false):∃ qs,alX Id' 12 9 [] [⟨.us (.ext (.vw [false,false,false,false,false] l)),false⟩,⟨.blk [.v (.int .i64 a),.v (.int .i64 b)],true⟩,⟨.bx [.obj 10],true⟩,⟨.dead,true⟩,⟨.bx [.obj 5],true⟩,⟨.us (.ext (.mp Z)),true⟩,⟨.dead,true⟩,⟨.us (.ext (.flat (.rw 72 [false,false,false] Y))),true⟩,⟨.us (.ins O),true⟩,⟨.dead,true⟩,⟨.us (.ext (.flat (.rw 72 [false,false,false] S))),true⟩,⟨.us (.ext (.flat (.rw 72 [false,false,false] S))),true⟩] ((symC (⟨Try.prog,[(43,ctrV C_tmd hardD)],[E_of Try.prog 57,E_of Try.prog 72],dkHo,Id'.one,60⟩:Sy Td) [] 198 (hdC (loopsC (bodyOf Try.f4)) 4) ⟨[(21,.c (.one (.v (.int .i64 (k:Int)))))]++anyB' (writesC (hdC (loopsC (bodyOf Try.f4)) 4)) ([(10,.c (.one (.ptr 4 0))),(15,.c (.one (.obj 11)))]++tabV f 198),[⟨.us (.ext (.vw [false,false,false,false,false] l)),false⟩,⟨.blk [.v (.int .i64 a),.v (.int .i64 b)],true⟩,⟨.bx [.obj 10],true⟩,⟨.dead,true⟩,⟨.bx [.obj 5],true⟩,⟨.us (.ext (.mp Z)),true⟩,⟨.dead,true⟩,⟨.us (.ext (.flat (.rw 72 [false,false,false] Y))),true⟩,⟨.us (.ins O),true⟩,⟨.dead,true⟩,⟨.us (.ext (.flat (.rw 72 [false,false,false] S))),true⟩,⟨.us (.ext (.flat (.rw 72 [false,false,false] S))),true⟩],0⟩).al [false])=some qs∧∀ q∈qs,q:=
 ⟨[decide ((↑k:Int)<(↑(FL.rw 72 [false,false,false] S).n:Int))=false,(Th.ext (Dk.vw [false,false,false,false,false] l):Td)=Th.ext (Dk.vw [false,false,false,false,false] l),Value.int IntKind.i64 a=Value.int IntKind.i64 a,Value.int IntKind.i64 b=Value.int IntKind.i64 b,(Th.ext (Dk.mp Z):Td)=Th.ext (Dk.mp Z),(Th.ext (Dk.flat (FL.rw 72 [false,false,false] Y)):Td)=Th.ext (Dk.flat (FL.rw 72 [false,false,false] Y)),(Th.ins O:Td)=Th.ins O,(Th.ext (Dk.flat (FL.rw 72 [false,false,false] S)):Td)=Th.ext (Dk.flat (FL.rw 72 [false,false,false] S)),(Th.ext (Dk.flat (FL.rw 72 [false,false,false] S)):Td)=Th.ext (Dk.flat (FL.rw 72 [false,false,false] S))],by kernel_rfl,(by refine mcons ?_ (mcons ?_ (mcons ?_ (mcons ?_ (mcons ?_ (mcons ?_ (mcons ?_ (mcons ?_ (mcons ?_ mnil))))))))<;>first|rfl|exact h0|trivial|(exact congrArg (Value.int .i64) h1)|(exact congrArg (Value.int .i64) h3)|(exact ⟨by omega,by omega⟩)|(exact fun _=>h4))⟩
def n8S (n0:Int) (Y:List Rw) (a b:Int) (O:List Int):Nat→Int
 |0=>n0
 |k+1=>bif wnO O (k:Int) O.length&&frO Y a b (k:Int) Y.length then IntKind.i64.wrap (n8S n0 Y a b O k - 1) else n8S n0 Y a b O k
set_option maxRecDepth 100000 in
theorem rn8_lp (l:List Rw) (a b:Int) (Y S:List Rw) (Z:List ((Int×Int)×Int)) (O:List Int) (n0:Int) (hS:S.length≤100000) (hO:O.length≤1000000) (hY:Y.length≤1000000) (hall:∀ k:Nat,k<8→(!hsE S a b (k:Int)==(wnO O (k:Int) O.length||!frO Y a b (k:Int) Y.length&&mdE Z a b (k:Int) != 0))=false) {W0:World} {G:Nat→Prop} (S0:Sy Td) (hS0:S0.P=Try.prog):LoopSound S0 Id' W0 G 198 (hdC (loopsC (bodyOf Try.f4)) 1) (lpG Id' 198 (hdC (loopsC (bodyOf Try.f4)) 1) 12 [(14,.c (.one (.v (.int .i64 (n8S n0 Y a b O 0))))),(16,.c (.one (.v (.int .i64 ((0:Nat):Int)))))] [(5,.c (.one (.ptr 1 0))),(9,.c (.one (.ptr 2 0))),(10,.c (.one (.ptr 4 0))),(12,.c (.one (.obj 7))),(13,.c (.one (.obj 8)))] [⟨.us (.ext (.vw [false,false,false,false,false] l)),false⟩,⟨.blk [.v (.int .i64 a),.v (.int .i64 b)],true⟩,⟨.bx [.obj 10],true⟩,⟨.dead,true⟩,⟨.bx [.obj 5],true⟩,⟨.us (.ext (.mp Z)),true⟩,⟨.dead,true⟩,⟨.us (.ext (.flat (.rw 72 [false,false,false] Y))),true⟩,⟨.us (.ins O),true⟩,⟨.dead,true⟩,⟨.us (.ext (.flat (.rw 72 [false,false,false] S))),true⟩,⟨.us (.ext (.flat (.rw 72 [false,false,false] S))),true⟩] (.leaf (.exit 3) [(14,.c (.one (.v (.int .i64 (n8S n0 Y a b O 8)))))] [⟨.us (.ext (.vw [false,false,false,false,false] l)),false⟩,⟨.blk [.v (.int .i64 a),.v (.int .i64 b)],true⟩,⟨.bx [.obj 10],true⟩,⟨.dead,true⟩,⟨.bx [.obj 5],true⟩,⟨.us (.ext (.mp Z)),true⟩,⟨.dead,true⟩,⟨.us (.ext (.flat (.rw 72 [false,false,false] Y))),true⟩,⟨.us (.ins O),true⟩,⟨.dead,true⟩,⟨.us (.ext (.flat (.rw 72 [false,false,false] S))),true⟩,⟨.us (.ext (.flat (.rw 72 [false,false,false] S))),true⟩])):=by
 refine lp_sound (V:=fun k=>[(14,.c (.one (.v (.int .i64 (n8S n0 Y a b O k))))),(16,.c (.one (.v (.int .i64 (k:Int)))))]) (M:=(fun k=>[⟨.us (.ext (.vw [false,false,false,false,false] l)),false⟩,⟨.blk [.v (.int .i64 a),.v (.int .i64 b)],true⟩,⟨.bx [.obj 10],true⟩,⟨.dead,true⟩,⟨.bx [.obj 5],true⟩,⟨.us (.ext (.mp Z)),true⟩,⟨.dead,true⟩,⟨.us (.ext (.flat (.rw 72 [false,false,false] Y))),true⟩,⟨.us (.ins O),true⟩,⟨.dead,true⟩,⟨.us (.ext (.flat (.rw 72 [false,false,false] S))),true⟩,⟨.us (.ext (.flat (.rw 72 [false,false,false] S))),true⟩]:Nat→Mem Td)) (N:=8) (Ux:=fun k x=>match x with|.exit 3=>some ([(14,.c (.one (.v (.int .i64 (n8S n0 Y a b O 8)))))],([⟨.us (.ext (.vw [false,false,false,false,false] l)),false⟩,⟨.blk [.v (.int .i64 a),.v (.int .i64 b)],true⟩,⟨.bx [.obj 10],true⟩,⟨.dead,true⟩,⟨.bx [.obj 5],true⟩,⟨.us (.ext (.mp Z)),true⟩,⟨.dead,true⟩,⟨.us (.ext (.flat (.rw 72 [false,false,false] Y))),true⟩,⟨.us (.ins O),true⟩,⟨.dead,true⟩,⟨.us (.ext (.flat (.rw 72 [false,false,false] S))),true⟩,⟨.us (.ext (.flat (.rw 72 [false,false,false] S))),true⟩]:Mem Td))|_=>none) (X:=fun _ _=>True) (J:=fun k=>k≤8) (fun k=>by kernel_rfl) (Nat.zero_le _) (fun k hk hJ f=>?_) (fun K hK k x U hk hU hX=>?_)
 ·rw [hS0]
  cases hT:decide ((k:Int)<8) with
  |false=>
   have hke:k=8:=by have:=of_decide_eq_false hT;omega
   subst hke
   obtain ⟨ps,h1,h2⟩:=rn8_x l a b Y S Z O _ 0 8 f hT
   exact rnd_x (⟨Try.prog,[(42,ctrV C_phs hardD),(43,ctrV C_tmd hardD)],[E_of Try.prog 57,E_of Try.prog 72],dkHo,Id'.one,60⟩:Sy Td) [(22,(lpG Id' 198 (hdC (loopsC (bodyOf Try.f4)) 2) 12 [(17,svV (.bool (wnO O ((8:Nat):Int) 0))),(19,.c (.one (.v (.int .i64 ((0:Nat):Int)))))] [(13,.c (.one (.obj 8))),(16,.c (.one (.v (.int .i64 ((8:Nat):Int)))))] [⟨.us (.ext (.vw [false,false,false,false,false] l)),false⟩,⟨.blk [.v (.int .i64 a),.v (.int .i64 b)],true⟩,⟨.bx [.obj 10],true⟩,⟨.dead,true⟩,⟨.bx [.obj 5],true⟩,⟨.us (.ext (.mp Z)),true⟩,⟨.dead,true⟩,⟨.us (.ext (.flat (.rw 72 [false,false,false] Y))),true⟩,⟨.us (.ins O),true⟩,⟨.dead,true⟩,⟨.us (.ext (.flat (.rw 72 [false,false,false] S))),true⟩,⟨.us (.ext (.flat (.rw 72 [false,false,false] S))),true⟩] (.leaf (.exit 5) [(17,svV (.bool (wnO O ((8:Nat):Int) O.length)))] [⟨.us (.ext (.vw [false,false,false,false,false] l)),false⟩,⟨.blk [.v (.int .i64 a),.v (.int .i64 b)],true⟩,⟨.bx [.obj 10],true⟩,⟨.dead,true⟩,⟨.bx [.obj 5],true⟩,⟨.us (.ext (.mp Z)),true⟩,⟨.dead,true⟩,⟨.us (.ext (.flat (.rw 72 [false,false,false] Y))),true⟩,⟨.us (.ins O),true⟩,⟨.dead,true⟩,⟨.us (.ext (.flat (.rw 72 [false,false,false] S))),true⟩,⟨.us (.ext (.flat (.rw 72 [false,false,false] S))),true⟩]))),(26,(lpG Id' 198 (hdC (loopsC (bodyOf Try.f4)) 3) 12 [(18,svV (.bool (frO Y a b ((8:Nat):Int) 0))),(20,.c (.one (.v (.int .i64 ((0:Nat):Int)))))] [(5,.c (.one (.ptr 1 0))),(12,.c (.one (.obj 7))),(16,.c (.one (.v (.int .i64 ((8:Nat):Int)))))] [⟨.us (.ext (.vw [false,false,false,false,false] l)),false⟩,⟨.blk [.v (.int .i64 a),.v (.int .i64 b)],true⟩,⟨.bx [.obj 10],true⟩,⟨.dead,true⟩,⟨.bx [.obj 5],true⟩,⟨.us (.ext (.mp Z)),true⟩,⟨.dead,true⟩,⟨.us (.ext (.flat (.rw 72 [false,false,false] Y))),true⟩,⟨.us (.ins O),true⟩,⟨.dead,true⟩,⟨.us (.ext (.flat (.rw 72 [false,false,false] S))),true⟩,⟨.us (.ext (.flat (.rw 72 [false,false,false] S))),true⟩] (.leaf (.exit 7) [(18,svV (.bool (frO Y a b ((8:Nat):Int) Y.length)))] [⟨.us (.ext (.vw [false,false,false,false,false] l)),false⟩,⟨.blk [.v (.int .i64 a),.v (.int .i64 b)],true⟩,⟨.bx [.obj 10],true⟩,⟨.dead,true⟩,⟨.bx [.obj 5],true⟩,⟨.us (.ext (.mp Z)),true⟩,⟨.dead,true⟩,⟨.us (.ext (.flat (.rw 72 [false,false,false] Y))),true⟩,⟨.us (.ins O),true⟩,⟨.dead,true⟩,⟨.us (.ext (.flat (.rw 72 [false,false,false] S))),true⟩,⟨.us (.ext (.flat (.rw 72 [false,false,false] S))),true⟩])))] rfl ((fun (W0:World) (G:Nat→Prop)=>SyOk.mk2 Try.mixed dkHo_ok (FnsR.cons (R_phs) (FnsR.cons (R_tmd) (FnsR.nil))) (E_of_ok (by kernel_rfl) (E_of_ok (by kernel_rfl) (EqsOk.nil)))) W0 G) (LpsOk.cons (by kernel_rfl) (rn3_lp l a b ((8:Nat):Int) Y S Z O hO _ rfl) (LpsOk.cons (by kernel_rfl) (rn4_lp l a b ((8:Nat):Int) Y S Z O hY _ rfl) (LpsOk.nil _))) (fun w e h=>h) _ 3 ps h1 h2 rfl trivial
  |true=>
   have hk1:k<8:=by have:=of_decide_eq_true hT;omega
   have hW:IntKind.i64.wrap ((k:Int)+1)=((k+1:Nat):Int):=by rw [IntWalk.i64_in _ (by omega)];omega
   obtain ⟨ps,h1,h2⟩:=rn8_n l a b Y S Z O (n8S n0 Y a b O k) (n8S n0 Y a b O (k+1)) k f hT hW (hall k hk1) rfl hS
   exact rnd_n (⟨Try.prog,[(42,ctrV C_phs hardD),(43,ctrV C_tmd hardD)],[E_of Try.prog 57,E_of Try.prog 72],dkHo,Id'.one,60⟩:Sy Td) [(22,(lpG Id' 198 (hdC (loopsC (bodyOf Try.f4)) 2) 12 [(17,svV (.bool (wnO O (k:Int) 0))),(19,.c (.one (.v (.int .i64 ((0:Nat):Int)))))] [(13,.c (.one (.obj 8))),(16,.c (.one (.v (.int .i64 (k:Int)))))] [⟨.us (.ext (.vw [false,false,false,false,false] l)),false⟩,⟨.blk [.v (.int .i64 a),.v (.int .i64 b)],true⟩,⟨.bx [.obj 10],true⟩,⟨.dead,true⟩,⟨.bx [.obj 5],true⟩,⟨.us (.ext (.mp Z)),true⟩,⟨.dead,true⟩,⟨.us (.ext (.flat (.rw 72 [false,false,false] Y))),true⟩,⟨.us (.ins O),true⟩,⟨.dead,true⟩,⟨.us (.ext (.flat (.rw 72 [false,false,false] S))),true⟩,⟨.us (.ext (.flat (.rw 72 [false,false,false] S))),true⟩] (.leaf (.exit 5) [(17,svV (.bool (wnO O (k:Int) O.length)))] [⟨.us (.ext (.vw [false,false,false,false,false] l)),false⟩,⟨.blk [.v (.int .i64 a),.v (.int .i64 b)],true⟩,⟨.bx [.obj 10],true⟩,⟨.dead,true⟩,⟨.bx [.obj 5],true⟩,⟨.us (.ext (.mp Z)),true⟩,⟨.dead,true⟩,⟨.us (.ext (.flat (.rw 72 [false,false,false] Y))),true⟩,⟨.us (.ins O),true⟩,⟨.dead,true⟩,⟨.us (.ext (.flat (.rw 72 [false,false,false] S))),true⟩,⟨.us (.ext (.flat (.rw 72 [false,false,false] S))),true⟩]))),(26,(lpG Id' 198 (hdC (loopsC (bodyOf Try.f4)) 3) 12 [(18,svV (.bool (frO Y a b (k:Int) 0))),(20,.c (.one (.v (.int .i64 ((0:Nat):Int)))))] [(5,.c (.one (.ptr 1 0))),(12,.c (.one (.obj 7))),(16,.c (.one (.v (.int .i64 (k:Int)))))] [⟨.us (.ext (.vw [false,false,false,false,false] l)),false⟩,⟨.blk [.v (.int .i64 a),.v (.int .i64 b)],true⟩,⟨.bx [.obj 10],true⟩,⟨.dead,true⟩,⟨.bx [.obj 5],true⟩,⟨.us (.ext (.mp Z)),true⟩,⟨.dead,true⟩,⟨.us (.ext (.flat (.rw 72 [false,false,false] Y))),true⟩,⟨.us (.ins O),true⟩,⟨.dead,true⟩,⟨.us (.ext (.flat (.rw 72 [false,false,false] S))),true⟩,⟨.us (.ext (.flat (.rw 72 [false,false,false] S))),true⟩] (.leaf (.exit 7) [(18,svV (.bool (frO Y a b (k:Int) Y.length)))] [⟨.us (.ext (.vw [false,false,false,false,false] l)),false⟩,⟨.blk [.v (.int .i64 a),.v (.int .i64 b)],true⟩,⟨.bx [.obj 10],true⟩,⟨.dead,true⟩,⟨.bx [.obj 5],true⟩,⟨.us (.ext (.mp Z)),true⟩,⟨.dead,true⟩,⟨.us (.ext (.flat (.rw 72 [false,false,false] Y))),true⟩,⟨.us (.ins O),true⟩,⟨.dead,true⟩,⟨.us (.ext (.flat (.rw 72 [false,false,false] S))),true⟩,⟨.us (.ext (.flat (.rw 72 [false,false,false] S))),true⟩])))] rfl ((fun (W0:World) (G:Nat→Prop)=>SyOk.mk2 Try.mixed dkHo_ok (FnsR.cons (R_phs) (FnsR.cons (R_tmd) (FnsR.nil))) (E_of_ok (by kernel_rfl) (E_of_ok (by kernel_rfl) (EqsOk.nil)))) W0 G) (LpsOk.cons (by kernel_rfl) (rn3_lp l a b (k:Int) Y S Z O hO _ rfl) (LpsOk.cons (by kernel_rfl) (rn4_lp l a b (k:Int) Y S Z O hY _ rfl) (LpsOk.nil _))) (fun w e h=>h) _ ps h1 h2 rfl rfl (by omega) (by omega)
 ·revert hU
  match x with
  |.normal=>intro hU;cases hU
  |.ret=>intro hU;cases hU
  |.exit n=>
   intro hU
   by_cases h:n=3
   ·subst h;simp only [Option.some.injEq] at hU;subst hU;exact hK
   ·exfalso;split at hU
    ·rename_i he;cases he;exact h rfl
    ·cases hU
set_option maxRecDepth 100000 in
theorem rn9_lp (l:List Rw) (a b:Int) (Y S:List Rw) (Z:List ((Int×Int)×Int)) (O:List Int) (hS:S.length≤100000) (hall:∀ k:Nat,k<S.length→(mdE Z ((S.getD k Rw.zero).is.getD 0 0) ((S.getD k Rw.zero).is.getD 1 0) ((S.getD k Rw.zero).is.getD 2 0)==0)=false) {W0:World} {G:Nat→Prop} (S0:Sy Td) (hS0:S0.P=Try.prog):LoopSound S0 Id' W0 G 198 (hdC (loopsC (bodyOf Try.f4)) 4) (lpG Id' 198 (hdC (loopsC (bodyOf Try.f4)) 4) 12 [(21,.c (.one (.v (.int .i64 ((0:Nat):Int)))))] [(10,.c (.one (.ptr 4 0))),(15,.c (.one (.obj 11)))] [⟨.us (.ext (.vw [false,false,false,false,false] l)),false⟩,⟨.blk [.v (.int .i64 a),.v (.int .i64 b)],true⟩,⟨.bx [.obj 10],true⟩,⟨.dead,true⟩,⟨.bx [.obj 5],true⟩,⟨.us (.ext (.mp Z)),true⟩,⟨.dead,true⟩,⟨.us (.ext (.flat (.rw 72 [false,false,false] Y))),true⟩,⟨.us (.ins O),true⟩,⟨.dead,true⟩,⟨.us (.ext (.flat (.rw 72 [false,false,false] S))),true⟩,⟨.us (.ext (.flat (.rw 72 [false,false,false] S))),true⟩] (.leaf (.exit 9) [] [⟨.us (.ext (.vw [false,false,false,false,false] l)),false⟩,⟨.blk [.v (.int .i64 a),.v (.int .i64 b)],true⟩,⟨.bx [.obj 10],true⟩,⟨.dead,true⟩,⟨.bx [.obj 5],true⟩,⟨.us (.ext (.mp Z)),true⟩,⟨.dead,true⟩,⟨.us (.ext (.flat (.rw 72 [false,false,false] Y))),true⟩,⟨.us (.ins O),true⟩,⟨.dead,true⟩,⟨.us (.ext (.flat (.rw 72 [false,false,false] S))),true⟩,⟨.us (.ext (.flat (.rw 72 [false,false,false] S))),true⟩])):=by
 refine lp_sound (V:=fun k=>[(21,.c (.one (.v (.int .i64 (k:Int)))))]) (M:=(fun k=>[⟨.us (.ext (.vw [false,false,false,false,false] l)),false⟩,⟨.blk [.v (.int .i64 a),.v (.int .i64 b)],true⟩,⟨.bx [.obj 10],true⟩,⟨.dead,true⟩,⟨.bx [.obj 5],true⟩,⟨.us (.ext (.mp Z)),true⟩,⟨.dead,true⟩,⟨.us (.ext (.flat (.rw 72 [false,false,false] Y))),true⟩,⟨.us (.ins O),true⟩,⟨.dead,true⟩,⟨.us (.ext (.flat (.rw 72 [false,false,false] S))),true⟩,⟨.us (.ext (.flat (.rw 72 [false,false,false] S))),true⟩]:Nat→Mem Td)) (N:=1000001) (Ux:=fun k x=>match x with|.exit 9=>some ([],([⟨.us (.ext (.vw [false,false,false,false,false] l)),false⟩,⟨.blk [.v (.int .i64 a),.v (.int .i64 b)],true⟩,⟨.bx [.obj 10],true⟩,⟨.dead,true⟩,⟨.bx [.obj 5],true⟩,⟨.us (.ext (.mp Z)),true⟩,⟨.dead,true⟩,⟨.us (.ext (.flat (.rw 72 [false,false,false] Y))),true⟩,⟨.us (.ins O),true⟩,⟨.dead,true⟩,⟨.us (.ext (.flat (.rw 72 [false,false,false] S))),true⟩,⟨.us (.ext (.flat (.rw 72 [false,false,false] S))),true⟩]:Mem Td))|_=>none) (X:=fun _ _=>True) (J:=fun k=>True) (fun k=>by kernel_rfl) trivial (fun k hk hJ f=>?_) (fun K hK k x U hk hU hX=>?_)
 ·rw [hS0]
  cases hT:decide ((k:Int)<(S.length:Int)) with
  |false=>
   exact rnd_xD (⟨Try.prog,[(43,ctrV C_tmd hardD)],[E_of Try.prog 57,E_of Try.prog 72],dkHo,Id'.one,60⟩:Sy Td) rfl ((fun (W0:World) (G:Nat→Prop)=>SyOk.mk2 Try.mixed dkHo_ok (FnsR.cons (R_tmd) (FnsR.nil)) (E_of_ok (by kernel_rfl) (E_of_ok (by kernel_rfl) (EqsOk.nil)))) W0 G) (rn9_x l a b Y S Z O k f hT) rfl trivial
  |true=>
   have hk1:k<S.length:=by have:=of_decide_eq_true hT;omega
   have hW:IntKind.i64.wrap ((k:Int)+1)=((k+1:Nat):Int):=by rw [IntWalk.i64_in _ (by omega)];omega
   exact rnd_nD (⟨Try.prog,[(43,ctrV C_tmd hardD)],[E_of Try.prog 57,E_of Try.prog 72],dkHo,Id'.one,60⟩:Sy Td) rfl ((fun (W0:World) (G:Nat→Prop)=>SyOk.mk2 Try.mixed dkHo_ok (FnsR.cons (R_tmd) (FnsR.nil)) (E_of_ok (by kernel_rfl) (E_of_ok (by kernel_rfl) (EqsOk.nil)))) W0 G) (rn9_n l a b Y S Z O k f hT hW ⟨by omega,by omega⟩ (hall k hk1)) rfl rfl (by omega) trivial
 ·revert hU
  match x with
  |.normal=>intro hU;cases hU
  |.ret=>intro hU;cases hU
  |.exit n=>
   intro hU
   by_cases h:n=9
   ·subst h;simp only [Option.some.injEq] at hU;subst hU;exact hK
   ·exfalso;split at hU
    ·rename_i he;cases he;exact h rfl
    ·cases hU
end Go.Proofs.Ytdenmoiaiemokaa
set_option linter.unusedVariables false
set_option linter.unusedSimpArgs false
namespace Go.Proofs.Ytdenmoiaiemokaa
open Go.RowKit
set_option maxRecDepth 100000 in
theorem rnall_w0 (l:List Rw) (a b cl md:Int) (h0:(rnS l (rnK l)).1.length≤9000) (h1:(pnE (rnS l (rnK l)).1 (rnS l (rnK l)).2 a b cl md).1.length≤100000) (h2:List.map nr3 (pnE (rnS l (rnK l)).1 (rnS l (rnK l)).2 a b cl md).1=(pnE (rnS l (rnK l)).1 (rnS l (rnK l)).2 a b cl md).1) (h3:(stQ (pnE (rnS l (rnK l)).1 (rnS l (rnK l)).2 a b cl md).1 (rnS l (rnK l)).2).length≤100000) (h4:List.map nr3 (stQ (pnE (rnS l (rnK l)).1 (rnS l (rnK l)).2 a b cl md).1 (rnS l (rnK l)).2)=(stQ (pnE (rnS l (rnK l)).1 (rnS l (rnK l)).2 a b cl md).1 (rnS l (rnK l)).2)) (h5:(n8S (pnE (rnS l (rnK l)).1 (rnS l (rnK l)).2 a b cl md).2 (rnS l (rnK l)).1 a b (othE (rnS l (rnK l)).2 a b cl md) 8==0)=true) (h6:(IntKind.i64.wrap (((stQ (pnE (rnS l (rnK l)).1 (rnS l (rnK l)).2 a b cl md).1 (rnS l (rnK l)).2).length:Int) - ((List.filter (fun r=>!hitS (rnS l (rnK l)).2 r) (stQ (pnE (rnS l (rnK l)).1 (rnS l (rnK l)).2 a b cl md).1 (rnS l (rnK l)).2)).length:Int))==0)=true):∃ qs,wayO Id' ([⟨.us (.ext (.vw [false,false,false,false,false] l)),false⟩]:Mem Td).length [⟨.us (.ext (.vw [false,false,false,false,false] l)),false⟩] (svV (.bool true)) ((runFn (⟨Try.prog,[(33,ctrF Id' C_pnew hardD),(34,ctrF Id' C_tnew hardD),(38,ctrF Id' C_pal hardD),(39,ctrF Id' C_oth hardD),(40,ctrF Id' C_pne hardD),(41,ctrF Id' C_qS hardD),(44,ctrF Id' C_lv22 hardD)],[E_of Try.prog 57,E_of Try.prog 72],dkHo,Id'.one,60⟩:Sy Td) [(3,(lpG Id' 198 (hdC (loopsC (bodyOf Try.f4)) 0) 6 [(11,.c (.one (.v (.int .i64 ((0:Nat):Int)))))] [(0,.c (.one (.obj 0))),(5,.c (.one (.ptr 1 0))),(2,.c (.one (.v (.int .i64 cl)))),(3,.c (.one (.v (.int .i64 md)))),(9,.c (.one (.ptr 2 0))),(10,.c (.one (.ptr 4 0)))] [⟨.us (.ext (.vw [false,false,false,false,false] l)),false⟩,⟨.blk [.v (.int .i64 a),.v (.int .i64 b)],true⟩,⟨.bx [.obj 6],true⟩,⟨.dead,true⟩,⟨.bx [.obj 5],true⟩,⟨.us (.ext (.mp (rnS l 0).2)),true⟩,⟨.us (.ext (.flat (.rw 72 [false,false,false] (rnS l 0).1))),true⟩] (.leaf (.exit 0) [] [⟨.us (.ext (.vw [false,false,false,false,false] l)),false⟩,⟨.blk [.v (.int .i64 a),.v (.int .i64 b)],true⟩,⟨.bx [.obj 6],true⟩,⟨.dead,true⟩,⟨.bx [.obj 5],true⟩,⟨.us (.ext (.mp (rnS l (rnK l)).2)),true⟩,⟨.us (.ext (.flat (.rw 72 [false,false,false] (rnS l (rnK l)).1))),true⟩]))),(18,(lpG Id' 198 (hdC (loopsC (bodyOf Try.f4)) 1) 12 [(14,.c (.one (.v (.int .i64 (n8S (pnE (rnS l (rnK l)).1 (rnS l (rnK l)).2 a b cl md).2 (rnS l (rnK l)).1 a b (othE (rnS l (rnK l)).2 a b cl md) 0))))),(16,.c (.one (.v (.int .i64 ((0:Nat):Int)))))] [(5,.c (.one (.ptr 1 0))),(9,.c (.one (.ptr 2 0))),(10,.c (.one (.ptr 4 0))),(12,.c (.one (.obj 7))),(13,.c (.one (.obj 8)))] [⟨.us (.ext (.vw [false,false,false,false,false] l)),false⟩,⟨.blk [.v (.int .i64 a),.v (.int .i64 b)],true⟩,⟨.bx [.obj 10],true⟩,⟨.dead,true⟩,⟨.bx [.obj 5],true⟩,⟨.us (.ext (.mp (rnS l (rnK l)).2)),true⟩,⟨.dead,true⟩,⟨.us (.ext (.flat (.rw 72 [false,false,false] (rnS l (rnK l)).1))),true⟩,⟨.us (.ins (othE (rnS l (rnK l)).2 a b cl md)),true⟩,⟨.dead,true⟩,⟨.us (.ext (.flat (.rw 72 [false,false,false] (stQ (pnE (rnS l (rnK l)).1 (rnS l (rnK l)).2 a b cl md).1 (rnS l (rnK l)).2)))),true⟩,⟨.us (.ext (.flat (.rw 72 [false,false,false] (stQ (pnE (rnS l (rnK l)).1 (rnS l (rnK l)).2 a b cl md).1 (rnS l (rnK l)).2)))),true⟩] (.leaf (.exit 3) [(14,.c (.one (.v (.int .i64 (n8S (pnE (rnS l (rnK l)).1 (rnS l (rnK l)).2 a b cl md).2 (rnS l (rnK l)).1 a b (othE (rnS l (rnK l)).2 a b cl md) 8)))))] [⟨.us (.ext (.vw [false,false,false,false,false] l)),false⟩,⟨.blk [.v (.int .i64 a),.v (.int .i64 b)],true⟩,⟨.bx [.obj 10],true⟩,⟨.dead,true⟩,⟨.bx [.obj 5],true⟩,⟨.us (.ext (.mp (rnS l (rnK l)).2)),true⟩,⟨.dead,true⟩,⟨.us (.ext (.flat (.rw 72 [false,false,false] (rnS l (rnK l)).1))),true⟩,⟨.us (.ins (othE (rnS l (rnK l)).2 a b cl md)),true⟩,⟨.dead,true⟩,⟨.us (.ext (.flat (.rw 72 [false,false,false] (stQ (pnE (rnS l (rnK l)).1 (rnS l (rnK l)).2 a b cl md).1 (rnS l (rnK l)).2)))),true⟩,⟨.us (.ext (.flat (.rw 72 [false,false,false] (stQ (pnE (rnS l (rnK l)).1 (rnS l (rnK l)).2 a b cl md).1 (rnS l (rnK l)).2)))),true⟩]))),(35,(lpG Id' 198 (hdC (loopsC (bodyOf Try.f4)) 4) 12 [(21,.c (.one (.v (.int .i64 ((0:Nat):Int)))))] [(10,.c (.one (.ptr 4 0))),(15,.c (.one (.obj 11)))] [⟨.us (.ext (.vw [false,false,false,false,false] l)),false⟩,⟨.blk [.v (.int .i64 a),.v (.int .i64 b)],true⟩,⟨.bx [.obj 10],true⟩,⟨.dead,true⟩,⟨.bx [.obj 5],true⟩,⟨.us (.ext (.mp (rnS l (rnK l)).2)),true⟩,⟨.dead,true⟩,⟨.us (.ext (.flat (.rw 72 [false,false,false] (rnS l (rnK l)).1))),true⟩,⟨.us (.ins (othE (rnS l (rnK l)).2 a b cl md)),true⟩,⟨.dead,true⟩,⟨.us (.ext (.flat (.rw 72 [false,false,false] (stQ (pnE (rnS l (rnK l)).1 (rnS l (rnK l)).2 a b cl md).1 (rnS l (rnK l)).2)))),true⟩,⟨.us (.ext (.flat (.rw 72 [false,false,false] (stQ (pnE (rnS l (rnK l)).1 (rnS l (rnK l)).2 a b cl md).1 (rnS l (rnK l)).2)))),true⟩] (.leaf (.exit 9) [] [⟨.us (.ext (.vw [false,false,false,false,false] l)),false⟩,⟨.blk [.v (.int .i64 a),.v (.int .i64 b)],true⟩,⟨.bx [.obj 10],true⟩,⟨.dead,true⟩,⟨.bx [.obj 5],true⟩,⟨.us (.ext (.mp (rnS l (rnK l)).2)),true⟩,⟨.dead,true⟩,⟨.us (.ext (.flat (.rw 72 [false,false,false] (rnS l (rnK l)).1))),true⟩,⟨.us (.ins (othE (rnS l (rnK l)).2 a b cl md)),true⟩,⟨.dead,true⟩,⟨.us (.ext (.flat (.rw 72 [false,false,false] (stQ (pnE (rnS l (rnK l)).1 (rnS l (rnK l)).2 a b cl md).1 (rnS l (rnK l)).2)))),true⟩,⟨.us (.ext (.flat (.rw 72 [false,false,false] (stQ (pnE (rnS l (rnK l)).1 (rnS l (rnK l)).2 a b cl md).1 (rnS l (rnK l)).2)))),true⟩])))] Try.f4 [.one (.obj 0),.agg [.v (.int .i64 a),.v (.int .i64 b)],.one (.v (.int .i64 cl)),.one (.v (.int .i64 md))] [⟨.us (.ext (.vw [false,false,false,false,false] l)),false⟩]).al [true,true])=some qs∧∀ q∈qs,q:=
 ⟨[Value.int IntKind.i64 cl=Value.int IntKind.i64 cl,Value.int IntKind.i64 md=Value.int IntKind.i64 md,(Th.ext (Dk.vw [false,false,false,false,false] l):Td)=Th.ext (Dk.vw [false,false,false,false,false] l),Value.int IntKind.i64 a=Value.int IntKind.i64 a,Value.int IntKind.i64 b=Value.int IntKind.i64 b,(Th.ext (Dk.mp []):Td)=Th.ext (Dk.mp []),(Th.ext (Dk.flat (FL.rw 72 [false,false,false] [])):Td)=Th.ext (Dk.flat (FL.rw 72 [false,false,false] [])),Value.int IntKind.i64 (Int.ofNat 0)=Value.int IntKind.i64 (Int.ofNat (0:Nat)),(rnS l (rnK l)).fst.length≤(100000:Nat),(rnS l (rnK l)).fst.length≤(9000:Nat),(pnE (rnS l (rnK l)).fst (rnS l (rnK l)).snd a b cl md).fst.length≤(100000:Nat),List.map nr3 (pnE (rnS l (rnK l)).1 (rnS l (rnK l)).2 a b cl md).1=(pnE (rnS l (rnK l)).1 (rnS l (rnK l)).2 a b cl md).1,(List.filter (fun r=>!hitS (rnS l (rnK l)).snd r) (pnE (rnS l (rnK l)).fst (rnS l (rnK l)).snd a b cl md).fst).length≤(100000:Nat),(Th.ext (Dk.vw [false,false,false,false,false] l):Td)=Th.ext (Dk.vw [false,false,false,false,false] l),Value.int IntKind.i64 a=Value.int IntKind.i64 a,Value.int IntKind.i64 b=Value.int IntKind.i64 b,(Th.ext (Dk.mp (rnS l (rnK l)).2):Td)=Th.ext (Dk.mp (rnS l (rnK l)).2),(Th.ext (Dk.flat (FL.rw 72 [false,false,false] (rnS l (rnK l)).1)):Td)=Th.ext (Dk.flat (FL.rw 72 [false,false,false] (rnS l (rnK l)).1)),(Th.ins (othE (rnS l (rnK l)).2 a b cl md):Td)=Th.ins (othE (rnS l (rnK l)).2 a b cl md),(Th.ext (Dk.flat (FL.rw 72 [false,false,false] (stQ (pnE (rnS l (rnK l)).1 (rnS l (rnK l)).2 a b cl md).1 (rnS l (rnK l)).2))):Td)=Th.ext (Dk.flat (FL.rw 72 [false,false,false] (stQ (pnE (rnS l (rnK l)).1 (rnS l (rnK l)).2 a b cl md).1 (rnS l (rnK l)).2))),(Th.ext (Dk.flat (FL.rw 72 [false,false,false] (stQ (pnE (rnS l (rnK l)).1 (rnS l (rnK l)).2 a b cl md).1 (rnS l (rnK l)).2))):Td)=Th.ext (Dk.flat (FL.rw 72 [false,false,false] (stQ (pnE (rnS l (rnK l)).1 (rnS l (rnK l)).2 a b cl md).1 (rnS l (rnK l)).2))),Value.int IntKind.i64 (pnE (rnS l (rnK l)).fst (rnS l (rnK l)).snd a b cl md).snd=Value.int IntKind.i64 (n8S (pnE (rnS l (rnK l)).fst (rnS l (rnK l)).snd a b cl md).snd (rnS l (rnK l)).fst a b (othE (rnS l (rnK l)).snd a b cl md) (0:Nat)),Value.int IntKind.i64 (Int.ofNat 0)=Value.int IntKind.i64 (Int.ofNat (0:Nat)),(Th.ext (Dk.vw [false,false,false,false,false] l):Td)=Th.ext (Dk.vw [false,false,false,false,false] l),Value.int IntKind.i64 a=Value.int IntKind.i64 a,Value.int IntKind.i64 b=Value.int IntKind.i64 b,(Th.ext (Dk.mp (rnS l (rnK l)).2):Td)=Th.ext (Dk.mp (rnS l (rnK l)).2),(Th.ext (Dk.flat (FL.rw 72 [false,false,false] (rnS l (rnK l)).1)):Td)=Th.ext (Dk.flat (FL.rw 72 [false,false,false] (rnS l (rnK l)).1)),(Th.ins (othE (rnS l (rnK l)).2 a b cl md):Td)=Th.ins (othE (rnS l (rnK l)).2 a b cl md),(Th.ext (Dk.flat (FL.rw 72 [false,false,false] (stQ (pnE (rnS l (rnK l)).1 (rnS l (rnK l)).2 a b cl md).1 (rnS l (rnK l)).2))):Td)=Th.ext (Dk.flat (FL.rw 72 [false,false,false] (stQ (pnE (rnS l (rnK l)).1 (rnS l (rnK l)).2 a b cl md).1 (rnS l (rnK l)).2))),(Th.ext (Dk.flat (FL.rw 72 [false,false,false] (stQ (pnE (rnS l (rnK l)).1 (rnS l (rnK l)).2 a b cl md).1 (rnS l (rnK l)).2))):Td)=Th.ext (Dk.flat (FL.rw 72 [false,false,false] (stQ (pnE (rnS l (rnK l)).1 (rnS l (rnK l)).2 a b cl md).1 (rnS l (rnK l)).2))),Value.int IntKind.i64 (Int.ofNat 0)=Value.int IntKind.i64 (Int.ofNat (0:Nat)),(n8S (pnE (rnS l (rnK l)).fst (rnS l (rnK l)).snd a b cl md).snd (rnS l (rnK l)).fst a b (othE (rnS l (rnK l)).snd a b cl md) (8:Nat)==(0:Int))=true,(IntKind.i64.wrap ((↑(stQ (pnE (rnS l (rnK l)).fst (rnS l (rnK l)).snd a b cl md).fst (rnS l (rnK l)).snd).length:Int) - (↑(List.filter (fun r=>!hitS (rnS l (rnK l)).snd r) (stQ (pnE (rnS l (rnK l)).fst (rnS l (rnK l)).snd a b cl md).fst (rnS l (rnK l)).snd)).length:Int))==(0:Int))=true,(IntKind.i64.wrap ((↑(stQ (pnE (rnS l (rnK l)).fst (rnS l (rnK l)).snd a b cl md).fst (rnS l (rnK l)).snd).length:Int) - (↑(List.filter (fun r=>!hitS (rnS l (rnK l)).snd r) (stQ (pnE (rnS l (rnK l)).fst (rnS l (rnK l)).snd a b cl md).fst (rnS l (rnK l)).snd)).length:Int))==(0:Int))=true,(stQ (pnE (rnS l (rnK l)).fst (rnS l (rnK l)).snd a b cl md).fst (rnS l (rnK l)).snd).length≤(100000:Nat),List.map nr3 (stQ (pnE (rnS l (rnK l)).1 (rnS l (rnK l)).2 a b cl md).1 (rnS l (rnK l)).2)=(stQ (pnE (rnS l (rnK l)).1 (rnS l (rnK l)).2 a b cl md).1 (rnS l (rnK l)).2),(n8S (pnE (rnS l (rnK l)).fst (rnS l (rnK l)).snd a b cl md).snd (rnS l (rnK l)).fst a b (othE (rnS l (rnK l)).snd a b cl md) (8:Nat)==(0:Int))=true,(Th.ext (Dk.vw [false,false,false,false,false] l):Td)=Th.ext (Dk.vw [false,false,false,false,false] l),Value.bool true=Value.bool true],by kernel_rfl,(by refine mcons ?_ (mcons ?_ (mcons ?_ (mcons ?_ (mcons ?_ (mcons ?_ (mcons ?_ (mcons ?_ (mcons ?_ (mcons ?_ (mcons ?_ (mcons ?_ (mcons ?_ (mcons ?_ (mcons ?_ (mcons ?_ (mcons ?_ (mcons ?_ (mcons ?_ (mcons ?_ (mcons ?_ (mcons ?_ (mcons ?_ (mcons ?_ (mcons ?_ (mcons ?_ (mcons ?_ (mcons ?_ (mcons ?_ (mcons ?_ (mcons ?_ (mcons ?_ (mcons ?_ (mcons ?_ (mcons ?_ (mcons ?_ (mcons ?_ (mcons ?_ (mcons ?_ (mcons ?_ mnil)))))))))))))))))))))))))))))))))))))))<;>first|rfl|exact h0|exact h1|exact h2|exact h3|exact h4|exact h5|exact h6|trivial|(exact Nat.le_trans h0 (by decide)))⟩
theorem n8_eq (Y:List Rw) (Z:List ((Int×Int)×Int)) (a b cl md:Int):∀ k,k≤8→n8S (pnE Y Z a b cl md).2 Y a b (othE Z a b cl md) k=nlS Y Z a b cl md k
 |0,_=>rfl
 |k+1,hk=>by
  have hb:=nl_in Y Z a b cl md k (by omega)
  have hc:(0:Int)≤(k:Int)∧(k:Int)<8:=by omega
  rw [n8S,nlS,n8_eq Y Z a b cl md k (by omega),wnO_all,frO_all,oth_has hc,IntWalk.i64_in _ (by omega)]
theorem rnall_c (l:List Rw) (a b cl md:Int):∀ w e vs,MemOk w (FootOf Id' w e [⟨.us (.ext (.vw [false,false,false,false,false] l)),false⟩]) Id' w e [⟨.us (.ext (.vw [false,false,false,false,false] l)),false⟩]→AllC e [.one (.obj 0),.agg [.v (.int .i64 a),.v (.int .i64 b)],.one (.v (.int .i64 cl)),.one (.v (.int .i64 md))] vs→
  Calls Try.prog 4 vs.toArray w (fun y w'=>∃ v e',y=.returned v∧Grows e e'∧(svV (.bool true)).is e' v∧MemOk w (FootOf Id' w e [⟨.us (.ext (.vw [false,false,false,false,false] l)),false⟩]) Id' w' e' [⟨.us (.ext (.vw [false,false,false,false,false] l)),false⟩]):=by
 intro w e vs hM ha
 obtain ⟨ok1,ok2⟩:=rnS_ok l (rnK l)
 have hK:rnK l≤40:=by unfold rnK;omega
 have hPl:=pn_len (rnS l (rnK l)).1 (rnS l (rnK l)).2 a b cl md
 have hPn:Nr3 (pnE (rnS l (rnK l)).1 (rnS l (rnK l)).2 a b cl md).1:=nrm_pn ok2 _ a b cl md
 have hSl:(stQ (pnE (rnS l (rnK l)).1 (rnS l (rnK l)).2 a b cl md).1 (rnS l (rnK l)).2).length≤(pnE (rnS l (rnK l)).1 (rnS l (rnK l)).2 a b cl md).1.length:=List.length_filter_le _ _
 have hSn:Nr3 (stQ (pnE (rnS l (rnK l)).1 (rnS l (rnK l)).2 a b cl md).1 (rnS l (rnK l)).2):=nrm_filter hPn _
 have hS3:(stQ (pnE (rnS l (rnK l)).1 (rnS l (rnK l)).2 a b cl md).1 (rnS l (rnK l)).2).length≤100000:=by omega
 have hall8:∀ k:Nat,k<8→(!hsE (stQ (pnE (rnS l (rnK l)).1 (rnS l (rnK l)).2 a b cl md).1 (rnS l (rnK l)).2) a b (k:Int)==(wnO (othE (rnS l (rnK l)).2 a b cl md) (k:Int) (othE (rnS l (rnK l)).2 a b cl md).length||!frO (rnS l (rnK l)).1 a b (k:Int) (rnS l (rnK l)).1.length&&mdE (rnS l (rnK l)).2 a b (k:Int) != 0))=false:=fun k hk=>by
  have hc:(0:Int)≤(k:Int)∧(k:Int)<8:=by omega
  rw [wnO_all,frO_all,oth_has hc,st_has _ _ _ _ _ _ _ hc,Bool.not_not]
  cases (inWay (rnS l (rnK l)).2 a b cl md (k:Int)||hsE (rnS l (rnK l)).1 a b (k:Int)&&mdE (rnS l (rnK l)).2 a b (k:Int) != 0)<;>rfl
 have hall9:∀ k:Nat,k<(stQ (pnE (rnS l (rnK l)).1 (rnS l (rnK l)).2 a b cl md).1 (rnS l (rnK l)).2).length→(mdE (rnS l (rnK l)).2 (((stQ (pnE (rnS l (rnK l)).1 (rnS l (rnK l)).2 a b cl md).1 (rnS l (rnK l)).2).getD k Rw.zero).is.getD 0 0) (((stQ (pnE (rnS l (rnK l)).1 (rnS l (rnK l)).2 a b cl md).1 (rnS l (rnK l)).2).getD k Rw.zero).is.getD 1 0) (((stQ (pnE (rnS l (rnK l)).1 (rnS l (rnK l)).2 a b cl md).1 (rnS l (rnK l)).2).getD k Rw.zero).is.getD 2 0)==0)=false:=fun k hk=>by
  rw [getD_at hk]
  exact st_mode _ _ (List.getElem_mem hk)
 have h5:(n8S (pnE (rnS l (rnK l)).1 (rnS l (rnK l)).2 a b cl md).2 (rnS l (rnK l)).1 a b (othE (rnS l (rnK l)).2 a b cl md) 8==0)=true:=by rw [n8_eq _ _ _ _ _ _ 8 (Nat.le_refl _),nl_end];rfl
 have h6:(IntKind.i64.wrap (((stQ (pnE (rnS l (rnK l)).1 (rnS l (rnK l)).2 a b cl md).1 (rnS l (rnK l)).2).length:Int) - ((List.filter (fun r=>!hitS (rnS l (rnK l)).2 r) (stQ (pnE (rnS l (rnK l)).1 (rnS l (rnK l)).2 a b cl md).1 (rnS l (rnK l)).2)).length:Int))==0)=true:=by
  have h7:List.filter (fun r=>!hitS (rnS l (rnK l)).2 r) (stQ (pnE (rnS l (rnK l)).1 (rnS l (rnK l)).2 a b cl md).1 (rnS l (rnK l)).2)=(stQ (pnE (rnS l (rnK l)).1 (rnS l (rnK l)).2 a b cl md).1 (rnS l (rnK l)).2):=st_st _ _
  rw [h7,Int.sub_self];rfl
 exact ctr_way (I:=Id') (fun (W0:World) (G:Nat→Prop)=>SyOk.mk2 Try.mixed dkHo_ok (FnsR.cons (R_pnew) (FnsR.cons (R_tnew) (FnsR.cons (R_pal) (FnsR.cons (R_oth) (FnsR.cons (R_pne) (FnsR.cons (R_qS) (FnsR.cons (R_lv22) (FnsR.nil)))))))) (E_of_ok (by kernel_rfl) (E_of_ok (by kernel_rfl) (EqsOk.nil)))) rfl Try.func4 (by kernel_rfl) (fun W0 G=>LpsOk.cons (by kernel_rfl) (rnl_lp l a b cl md _ rfl) (LpsOk.cons (by kernel_rfl) (rn8_lp l a b (rnS l (rnK l)).1 (stQ (pnE (rnS l (rnK l)).1 (rnS l (rnK l)).2 a b cl md).1 (rnS l (rnK l)).2) (rnS l (rnK l)).2 (othE (rnS l (rnK l)).2 a b cl md) (pnE (rnS l (rnK l)).1 (rnS l (rnK l)).2 a b cl md).2 hS3 (by have:=othS_len2 (rnS l (rnK l)).2 a b cl md;omega) (by omega) hall8 _ rfl) (LpsOk.cons (by kernel_rfl) (rn9_lp l a b (rnS l (rnK l)).1 (stQ (pnE (rnS l (rnK l)).1 (rnS l (rnK l)).2 a b cl md).1 (rnS l (rnK l)).2) (rnS l (rnK l)).2 (othE (rnS l (rnK l)).2 a b cl md) hS3 hall9 _ rfl) (LpsOk.nil _)))) (cs:=[true,true]) (by kernel_rfl) (rnall_w0 l a b cl md (by omega) (by omega) hPn hS3 hSn h5 h6) w e vs hM ha
end Go.Proofs.Ytdenmoiaiemokaa
set_option linter.unusedVariables false
set_option linter.unusedSimpArgs false
namespace Go.Proofs.Ytdenmoiaiemokaa
open Go.RowKit
def deOk (L:List (List UInt8)):Bool:=dbE (stO L L.length)==0&&decide (dbB (stO L L.length)=L)
def deR (L:List (List UInt8)):List Rw:=bif deOk L then (stO L L.length) else []
end Go.Proofs.Ytdenmoiaiemokaa
set_option linter.unusedVariables false
set_option linter.unusedSimpArgs false
namespace Go.Proofs.Ytdenmoiaiemokaa
open Go.RowKit
section
variable {w w':World} {N:Nat→Prop} {o xb:Nat} {bs:List Bool} {err:Int}
end
end Go.Proofs.Ytdenmoiaiemokaa
set_option linter.unusedVariables false
set_option linter.unusedSimpArgs false
namespace Go.Proofs.Ytdenmoiaiemokaa
open Go.RowKit
section
variable {β:Type} {I:ObI β} {W0:World} {G:Nat→Prop} {w w':World} {E:Env} {mem:Mem β}
end
end Go.Proofs.Ytdenmoiaiemokaa
set_option linter.unusedVariables false
set_option linter.unusedSimpArgs false
namespace Go.Proofs.Ytdenmoiaiemokaa
open Go.RowKit
theorem gL_snoc:∀ (n:Nat) (s:RS),gL (n+1) s=gL n s++[gU (gS n s)]
 |0,s=>rfl
 |n+1,s=>by
  show gU s::gL (n+1) (s.get 8)=(gU s::gL n (s.get 8))++[gU (gS n (s.get 8))]
  rw [gL_snoc n (s.get 8)];rfl
theorem gS_snoc:∀ (n:Nat) (s:RS),gS (n+1) s=(gS n s).get 8
 |0,s=>rfl
 |n+1,s=>gS_snoc n (s.get 8)
theorem gL_len:∀ (n:Nat) (s:RS),(gL n s).length=n
 |0,s=>rfl
 |n+1,s=>by simp [gL,gL_len n (s.get 8)]
end Go.Proofs.Ytdenmoiaiemokaa
set_option linter.unusedVariables false
set_option linter.unusedSimpArgs false
namespace Go.Proofs.Ytdenmoiaiemokaa
open Go.RowKit
def slE (b:List UInt8) (i:Int):RS:=⟨b,0+(IntKind.i64.wrap (172 * i)).toNat,0⟩
def gq (s:RS):Int:=IntKind.i64.wrap (s.num 5:Int)
def inEd (s:RS):Bool:=decide (gq s>0)&&decide (gq s≤16)
def entH (s:RS):Rw:=⟨[gA s,gB s,gC s],[⟨(((gL 16 (g4 s)).drop 0).take ((gq s).toNat - 0)).toArray⟩]⟩
def stH (b:List UInt8) (X:List Rw):Nat→List Rw
 |0=>X
 |k+1=>bif inEd (slE b (k:Int)) then stH b X k++[entH (slE b (k:Int))] else stH b X k
def stR (L:List (List UInt8)):Nat→List Rw
 |0=>[]
 |k+1=>stH (L.getD k []) (stR L k) 5
end Go.Proofs.Ytdenmoiaiemokaa
set_option linter.unusedVariables false
set_option linter.unusedSimpArgs false
namespace Go.Proofs.Ytdenmoiaiemokaa
open Go.RowKit
end Go.Proofs.Ytdenmoiaiemokaa
set_option linter.unusedVariables false
set_option linter.unusedSimpArgs false
namespace Go.Proofs.Ytdenmoiaiemokaa
open Go.RowKit
section
variable {P:Program} {α β:Type}
end
end Go.Proofs.Ytdenmoiaiemokaa
set_option linter.unusedVariables false
set_option linter.unusedSimpArgs false
namespace Go.Proofs.Ytdenmoiaiemokaa
open Go.RowKit
section
variable {W0:World} {G:Nat→Prop} {w:World} {e:Env} {mem:Mem Td}
end
end Go.Proofs.Ytdenmoiaiemokaa
set_option linter.unusedVariables false
set_option linter.unusedSimpArgs false
namespace Go.Proofs.Ytdenmoiaiemokaa
open Go.RowKit
section
variable {S:Sy Td} {W0:World} {G:Nat→Prop} {base:List (Nat×SV)} {sz:Nat} {l:List Oper}
end
end Go.Proofs.Ytdenmoiaiemokaa
set_option linter.unusedVariables false
set_option linter.unusedSimpArgs false
namespace Go.Proofs.Ytdenmoiaiemokaa
open Go.RowKit
section
variable {W0:World} {G:Nat→Prop} {sz:Nat}
end
end Go.Proofs.Ytdenmoiaiemokaa
set_option linter.unusedVariables false
set_option linter.unusedSimpArgs false
namespace Go.Proofs.Ytdenmoiaiemokaa
open Go.RowKit
end Go.Proofs.Ytdenmoiaiemokaa
set_option linter.unusedVariables false
set_option linter.unusedSimpArgs false
namespace Go.Proofs.Ytdenmoiaiemokaa
open Go.RowKit
end Go.Proofs.Ytdenmoiaiemokaa
set_option linter.unusedVariables false
namespace Go.Proofs.Ytdenmoiaiemokaa
open Go.RowKit
theorem get_at {b:List UInt8} {p:Nat} (n:Nat) (hn:n≤64) (h:p+n≤8 * b.length):(⟨b,p,0⟩:RS).get (n:Int)=⟨b,p+n,0⟩∧(⟨b,p,0⟩:RS).num (n:Int)=val (((bitsAll b).drop p).take n):=RS.get_ok rfl hn h
theorem i64_num (s:RS) (n:Nat) (hn:n≤40):IntKind.i64.wrap (s.num (n:Int):Int)=(s.num (n:Int):Int):=by
 have h:=RS.num_lt s n
 have:(2:Nat) ^ n≤2 ^ 40:=Nat.pow_le_pow_right (by decide) hn
 have e:(2:Nat) ^ 40=1099511627776:=by decide
 exact IntWalk.i64_in _ (by omega)
def slB (b:List UInt8) (p:Nat):List Bool:=(bitsAll b).drop p
theorem g4_at {b:List UInt8} {p:Nat} (h:p+172≤8 * b.length):g4 ⟨b,p,0⟩=⟨b,p+44,0⟩∧gq ⟨b,p,0⟩=(val ((slB b p).take 5):Int)∧gA ⟨b,p,0⟩=(val (((slB b p).drop 5).take 6):Int)∧gB ⟨b,p,0⟩=(val (((slB b p).drop 11).take 31):Int)∧gC ⟨b,p,0⟩=(val (((slB b p).drop 42).take 2):Int):=by
 have h5:(⟨b,p,0⟩:RS).get 5=⟨b,p+5,0⟩∧(⟨b,p,0⟩:RS).num 5=_:=get_at 5 (by decide) (by omega)
 have h6:(⟨b,p+5,0⟩:RS).get 6=⟨b,p+11,0⟩∧(⟨b,p+5,0⟩:RS).num 6=_:=get_at 6 (by decide) (by omega)
 have h31:(⟨b,p+11,0⟩:RS).get 31=⟨b,p+42,0⟩∧(⟨b,p+11,0⟩:RS).num 31=_:=get_at 31 (by decide) (by omega)
 have h2:(⟨b,p+42,0⟩:RS).get 2=⟨b,p+44,0⟩∧(⟨b,p+42,0⟩:RS).num 2=_:=get_at 2 (by decide) (by omega)
 have w5:=i64_num ⟨b,p,0⟩ 5 (by decide)
 have w6:=i64_num ⟨b,p+5,0⟩ 6 (by decide)
 have w31:=i64_num ⟨b,p+11,0⟩ 31 (by decide)
 have w2:=i64_num ⟨b,p+42,0⟩ 2 (by decide)
 refine ⟨?_,?_,?_,?_,?_⟩
 ·unfold g4
  rw [h5.1,h6.1,h31.1,h2.1]
 ·unfold gq
  exact w5.trans (congrArg _ h5.2)
 ·unfold gA
  rw [h5.1]
  refine w6.trans (congrArg _ (h6.2.trans ?_))
  unfold slB
  rw [List.drop_drop]
 ·unfold gB
  rw [h5.1,h6.1]
  refine w31.trans (congrArg _ (h31.2.trans ?_))
  unfold slB
  rw [List.drop_drop]
 ·unfold gC
  rw [h5.1,h6.1,h31.1]
  refine w2.trans (congrArg _ (h2.2.trans ?_))
  unfold slB
  rw [List.drop_drop]
theorem gS_at {b:List UInt8} {q:Nat}:∀ n,q+8 * n≤8 * b.length→gS n ⟨b,q,0⟩=⟨b,q+8 * n,0⟩
 |0,_=>rfl
 |n+1,h=>by
  rw [gS_snoc,gS_at n (by omega)]
  have:=(get_at (b:=b) (p:=q+8 * n) 8 (by decide) (by omega)).1
  exact this
theorem gL_at {b:List UInt8} {q:Nat}:∀ n,q+8 * n≤8 * b.length→gL n ⟨b,q,0⟩=(List.range n).map fun j=>UInt8.ofNat (val ((slB b (q+8 * j)).take 8))
 |0,_=>rfl
 |n+1,h=>by
  rw [gL_snoc,gL_at n (by omega),gS_at n (by omega),List.range_succ,List.map_append]
  congr 1
  have h8:=(get_at (b:=b) (p:=q+8 * n) 8 (by decide) (by omega)).2
  have hl:=RS.num_lt ⟨b,q+8 * n,0⟩ 8
  have e8:(2:Nat) ^ 8=256:=by decide
  show [gU _]=[_]
  unfold gU
  have hw:IntKind.u8.wrap ((⟨b,q+8 * n,0⟩:RS).num 8:Int)=((⟨b,q+8 * n,0⟩:RS).num 8:Int):=by
   have:((⟨b,q+8 * n,0⟩:RS).num ((8:Nat):Int))<256:=by rw [← e8];exact hl
   have e:(⟨b,q+8 * n,0⟩:RS).num ((8:Nat):Int)=(⟨b,q+8 * n,0⟩:RS).num 8:=rfl
   rw [IntKind.wrap_u8];omega
  rw [hw,Int.toNat_natCast]
  congr 2
theorem gE_at {b:List UInt8} {p:Nat} (h:p+172≤8 * b.length):gE ⟨b,p,0⟩=⟨b,p+172,0⟩:=by
 unfold gE
 rw [(g4_at h).1,gS_at 16 (by omega)]
theorem nmB_app (l:List Bool) (nm:ByteArray):∀ k,nmB l nm k=l++nmB [] nm k
 |0=>(List.append_nil l).symm
 |k+1=>by simp only [nmB];rw [nmB_app l nm k,List.append_assoc]
def entF (r:Rw):List Bool:=entB [] r
theorem entB_app (l:List Bool) (r:Rw):entB l r=l++entF r:=by
 unfold entF entB
 rw [nmB_app,nmB_app (_++_)]
 simp only [List.append_assoc,List.nil_append]
theorem entsB_at (Y:List Rw) (t:List Bool):∀ k,k≤Y.length→∀ j,j<k→∃ t',(entsB Y k++t).drop (172 * j)=entF (Y.getD j Rw.zero)++t'
 |0,_,j,hj=>absurd hj (Nat.not_lt_zero j)
 |k+1,hk,j,hj=>by
  have hl:=entsB_len Y k
  rcases Nat.lt_or_ge j k with h|h
  ·obtain ⟨t',ht⟩:=entsB_at Y (entF (Y.getD k Rw.zero)++t) k (by omega) j h
   refine ⟨t',?_⟩
   show (entB (entsB Y k) (Y.getD k Rw.zero)++t).drop _=_
   rw [entB_app,List.append_assoc]
   exact ht
  ·have:j=k:=by omega
   subst this
   refine ⟨t,?_⟩
   show (entB (entsB Y j) (Y.getD j Rw.zero)++t).drop _=_
   rw [entB_app,List.append_assoc,List.drop_left' hl]
theorem nmB_at (nm:ByteArray) (t:List Bool):∀ k j,j<k→∃ t',(nmB [] nm k++t).drop (8 * j)=bitsOf (IntKind.u64.wrap (chI nm (j:Int))).toNat 8++t'
 |0,j,hj=>absurd hj (Nat.not_lt_zero j)
 |k+1,j,hj=>by
  have hl:=nmB_len [] nm k
  rw [List.length_nil,Nat.zero_add] at hl
  rcases Nat.lt_or_ge j k with h|h
  ·obtain ⟨t',ht⟩:=nmB_at nm (bitsOf (IntKind.u64.wrap (chI nm (k:Int))).toNat 8++t) k j h
   refine ⟨t',?_⟩
   show (nmB [] nm k++_++t).drop _=_
   rw [List.append_assoc]
   exact ht
  ·have:j=k:=by omega
   subst this
   refine ⟨t,?_⟩
   show (nmB [] nm j++_++t).drop _=_
   rw [List.append_assoc,List.drop_left' hl]
theorem take_len {l t:List Bool} {n:Nat} (h:l.length=n):(l++t).take n=l:=List.take_left' h
theorem entF_parts (r:Rw):entF r=bitsOf (IntKind.u64.wrap ((r.ss.getD 0 ⟨#[]⟩).size:Int)).toNat 5++(bitsOf (IntKind.u64.wrap (r.is.getD 0 0)).toNat 6++(bitsOf (IntKind.u64.wrap (r.is.getD 1 0)).toNat 31++(bitsOf (IntKind.u64.wrap (r.is.getD 2 0)).toNat 2++nmB [] (r.ss.getD 0 ⟨#[]⟩) 16))):=by
 unfold entF entB
 rw [nmB_app]
 simp only [List.append_assoc,List.nil_append]
theorem u64_nat {x:Int} {m:Nat} (h:0≤x∧x<(m:Int)) (hm:m≤18446744073709551616):(IntKind.u64.wrap x).toNat=x.toNat:=by rw [u64w_id (by omega)]
theorem read_ent {b:List UInt8} {p:Nat} {r:Rw} {t:List Bool} (h:p+172≤8 * b.length) (hr:isR r=true) (hB:slB b p=entF r++t):
  gq ⟨b,p,0⟩=((r.ss.getD 0 ⟨#[]⟩).size:Int)∧gA ⟨b,p,0⟩=r.is.getD 0 0∧gB ⟨b,p,0⟩=r.is.getD 1 0∧gC ⟨b,p,0⟩=r.is.getD 2 0∧(gL 16 (g4 ⟨b,p,0⟩)).take (r.ss.getD 0 ⟨#[]⟩).size=(r.ss.getD 0 ⟨#[]⟩).data.toList:=by
 obtain ⟨hn,ha,hb,hc⟩:=isE_in hr
 obtain ⟨k0,k1,k2,k3,k4⟩:=g4_at h
 rw [entF_parts] at hB
 simp only [List.append_assoc] at hB
 have hsz:(r.ss.getD 0 ⟨#[]⟩).data.toList.length=(r.ss.getD 0 ⟨#[]⟩).size:=Array.length_toList
 refine ⟨?_,?_,?_,?_,?_⟩
 ·rw [k1,hB,take_len (bitsOf_length _ _),u64_nat (m:=17) ⟨by omega,by omega⟩ (by decide),val_bits_id (by rw [Int.toNat_natCast];omega),Int.toNat_natCast]
 ·rw [k2,hB,List.drop_left' (bitsOf_length _ _),take_len (bitsOf_length _ _),u64_nat (m:=41) ⟨by omega,by omega⟩ (by decide),val_bits_id (by show _<64;omega)]
  omega
 ·have e:∀ l:List Bool,l.drop 11=(l.drop 5).drop 6:=fun l=>by rw [List.drop_drop]
  rw [k3,hB,e,List.drop_left' (bitsOf_length _ _),List.drop_left' (bitsOf_length _ _),take_len (bitsOf_length _ _),u64_nat (m:=2147483648) ⟨by omega,by omega⟩ (by decide),val_bits_id (by show _<2147483648;omega)]
  omega
 ·have e:∀ l:List Bool,l.drop 42=((l.drop 5).drop 6).drop 31:=fun l=>by rw [List.drop_drop,List.drop_drop]
  rw [k4,hB,e,List.drop_left' (bitsOf_length _ _),List.drop_left' (bitsOf_length _ _),List.drop_left' (bitsOf_length _ _),take_len (bitsOf_length _ _),u64_nat (m:=3) ⟨by omega,by omega⟩ (by decide),val_bits_id (by show _<4;omega)]
  omega
 ·rw [k0,gL_at 16 (by omega)]
  apply List.ext_getElem
  ·rw [List.length_take,List.length_map,List.length_range,hsz];omega
  ·intro j h1 h2
   rw [List.getElem_take,List.getElem_map,List.getElem_range]
   have hj:j<16:=by rw [hsz] at h2;omega
   have e:slB b (p+44+8 * j)=((((slB b p).drop 5).drop 6).drop 31 |>.drop 2).drop (8 * j):=by
    unfold slB
    rw [List.drop_drop,List.drop_drop,List.drop_drop,List.drop_drop,List.drop_drop]
    congr 1
    omega
   obtain ⟨t',ht⟩:=nmB_at (r.ss.getD 0 ⟨#[]⟩) t 16 j hj
   have hcj:chI (r.ss.getD 0 ⟨#[]⟩) (j:Int)=(((r.ss.getD 0 ⟨#[]⟩).data.toList[j]).toNat:Int):=by
    unfold chI
    rw [decide_eq_true (by rw [hsz] at h2;omega),cond_true,Int.toNat_natCast,List.getD_eq_getElem?_getD,List.getElem?_eq_getElem h2];rfl
   rw [e,hB,List.drop_left' (bitsOf_length _ _),List.drop_left' (bitsOf_length _ _),List.drop_left' (bitsOf_length _ _),List.drop_left' (bitsOf_length _ _),ht,take_len (bitsOf_length _ _),hcj]
   have hlt:=((r.ss.getD 0 ⟨#[]⟩).data.toList[j]).toNat_lt
   rw [u64_nat (m:=256) ⟨by omega,by omega⟩ (by decide),Int.toNat_natCast,val_bits_id (by show _<256;omega)]
   simp
theorem val_zero:∀ l:List Bool,(∀ x∈l,x=false)→val l=0
 |[],_=>rfl
 |a::l,h=>by
  rw [val_cons,h a (List.mem_cons_self ..),val_zero l fun x hx=>h x (List.mem_cons_of_mem _ hx)];simp
theorem read_none {b:List UInt8} {p:Nat} (h:p+172≤8 * b.length) (hB:∀ x∈slB b p,x=false):gq ⟨b,p,0⟩=0:=by
 rw [(g4_at h).2.1,val_zero _ fun x hx=>hB x (List.mem_of_mem_take hx)];rfl
theorem bits_blk (Y:List Rw):∃ k,bitsAll (blkD Y)=entsB Y Y.length++List.replicate k false:=by
 obtain ⟨k,_,h⟩:=bitsAll_packed _ (entsB Y Y.length) (Nat.le_refl _)
 have hz:∀ n,bitsAll (List.replicate n 0)=List.replicate (8 * n) false:=fun n=>by
  induction n with
  |zero=>rfl
  |succ n ih=>
   rw [List.replicate_succ]
   show bitsOf 0 8++bitsAll _=_
   rw [ih,Nat.mul_succ,Nat.add_comm,←List.replicate_append_replicate];rfl
 refine ⟨k+8 * (128 - (packed (entsB Y Y.length)).length),?_⟩
 unfold blkD padL
 rw [bitsAll_append,h,hz,List.append_assoc,List.replicate_append_replicate]
theorem blkD_len {Y:List Rw} (hl:Y.length≤5):(blkD Y).length=128:=by
 unfold blkD padL
 rw [List.length_append,List.length_replicate,packed_length,entsB_len]
 omega
theorem nm_eq {nm:ByteArray} {l:List UInt8} (h:l=nm.data.toList):(⟨l.toArray⟩:ByteArray)=nm:=by
 subst h
 simp
theorem slot_in {Y:List Rw} (hl:Y.length≤5) (hr:∀ r∈Y,isR r=true) {k:Nat} (hk:k<Y.length):entH ⟨blkD Y,172 * k,0⟩=nrm4 (Y.getD k Rw.zero)∧entG ⟨blkD Y,172 * k,0⟩=nrm4 (Y.getD k Rw.zero)∧inEd ⟨blkD Y,172 * k,0⟩=true∧((gNm ⟨blkD Y,172 * k,0⟩).toList==(⟨#[]⟩:ByteArray).toList)=false∧gq ⟨blkD Y,172 * k,0⟩≤16:=by
 obtain ⟨z,hz⟩:=bits_blk Y
 obtain ⟨t',ht⟩:=entsB_at Y (List.replicate z false) Y.length (Nat.le_refl _) k hk
 rw [← hz] at ht
 have hR:isR (Y.getD k Rw.zero)=true:=hr _ (by rw [List.getD_eq_getElem?_getD,List.getElem?_eq_getElem hk];exact List.getElem_mem _)
 have hlen:=blkD_len hl
 obtain ⟨h1,h2,h3,h4,h5⟩:=read_ent (b:=blkD Y) (p:=172 * k) (by omega) hR ht
 obtain ⟨hn,_⟩:=isE_in hR
 have hn0:0<((Y.getD k Rw.zero).ss.getD 0 ⟨#[]⟩).size:=by
  have:=hR
  unfold isR isE nameB at this
  simp only [Bool.and_eq_true,decide_eq_true_eq] at this
  omega
 have hgN:gN ⟨blkD Y,172 * k,0⟩=(((Y.getD k Rw.zero).ss.getD 0 ⟨#[]⟩).size:Int):=by
  have:gN ⟨blkD Y,172 * k,0⟩=if (16:Int)<gq ⟨blkD Y,172 * k,0⟩ then 16 else gq ⟨blkD Y,172 * k,0⟩:=rfl
  rw [this,h1,if_neg (by omega)]
 have hnm:gNm ⟨blkD Y,172 * k,0⟩=(Y.getD k Rw.zero).ss.getD 0 ⟨#[]⟩:=by
  unfold gNm
  rw [hgN,Int.toNat_natCast,h5]
 refine ⟨?_,?_,?_,?_,?_⟩
 ·unfold entH nrm4
  rw [h1,h2,h3,h4,Int.toNat_natCast,List.drop_zero,Nat.sub_zero,h5,nm_eq rfl]
 ·unfold entG nrm4
  rw [h2,h3,h4,hnm]
 ·unfold inEd
  rw [h1,Bool.and_eq_true,decide_eq_true_iff,decide_eq_true_iff]
  omega
 ·rw [hnm]
  cases hq:(((Y.getD k Rw.zero).ss.getD 0 ⟨#[]⟩).toList==(⟨#[]⟩:ByteArray).toList) with
  |false=>rfl
  |true=>
   have:=congrArg List.length (eq_of_beq hq)
   rw [byteArray_len] at this
   have e0:(⟨#[]⟩:ByteArray).toList.length=0:=by rw [byteArray_len];rfl
   omega
 ·rw [h1];omega
theorem slot_out {Y:List Rw} (hl:Y.length≤5) {k:Nat} (hk:Y.length≤k) (h5:k<5):inEd ⟨blkD Y,172 * k,0⟩=false∧((gNm ⟨blkD Y,172 * k,0⟩).toList==(⟨#[]⟩:ByteArray).toList)=true∧gq ⟨blkD Y,172 * k,0⟩≤16:=by
 obtain ⟨z,hz⟩:=bits_blk Y
 have hlen:=blkD_len hl
 have hq:=read_none (b:=blkD Y) (p:=172 * k) (by omega) fun x hx=>by
  unfold slB at hx
  rw [hz] at hx
  obtain ⟨n,hn,rfl⟩:=List.getElem_of_mem hx
  rw [List.getElem_drop,List.getElem_append_right (by rw [entsB_len];omega),List.getElem_replicate]
 have hgN:gN ⟨blkD Y,172 * k,0⟩=0:=by
  have:gN ⟨blkD Y,172 * k,0⟩=if (16:Int)<gq ⟨blkD Y,172 * k,0⟩ then 16 else gq ⟨blkD Y,172 * k,0⟩:=rfl
  rw [this,hq,if_neg (by omega)]
 refine ⟨?_,?_,?_⟩
 ·unfold inEd;rw [hq];rfl
 ·unfold gNm;rw [hgN];simp
 ·rw [hq];omega
end Go.Proofs.Ytdenmoiaiemokaa
set_option linter.unusedVariables false
namespace Go.Proofs.Ytdenmoiaiemokaa
open Go.RowKit
theorem slE_at (b:List UInt8) {k:Nat} (h:k≤5):slE b (k:Int)=⟨b,172 * k,0⟩:=by
 unfold slE
 rw [IntWalk.i64_in _ (by omega)]
 congr 1
 omega
def small (b:List UInt8):Prop:=∀ k,k<5→gq ⟨b,172 * k,0⟩≤16
theorem stE_s {b:List UInt8} (hb:b.length=128) (X:List Rw):∀ k,k≤5→(stE X (RS.new b) k).2=⟨b,172 * k,0⟩
 |0,_=>rfl
 |k+1,h=>by
  show gE (stE X (RS.new b) k).2=_
  rw [stE_s hb X k (by omega),gE_at (by omega)]
  congr 1
theorem gq_pos (s:RS):0≤gq s:=by
 unfold gq
 rw [show (5:Int)=((5:Nat):Int) from rfl,i64_num s 5 (by decide)]
 omega
theorem gN_small {s:RS} (h:gq s≤16):gN s=gq s:=by
 have:gN s=if (16:Int)<gq s then 16 else gq s:=rfl
 rw [this,if_neg (by omega)]
theorem nm_none {s:RS} (h:gq s≤16):((gNm s).toList==(⟨#[]⟩:ByteArray).toList)=!inEd s:=by
 have hl:(gNm s).toList.length=(gq s).toNat:=by
  rw [byteArray_len]
  unfold gNm
  rw [gN_small h]
  show ((gL 16 (g4 s)).take (gq s).toNat).toArray.size=_
  rw [List.size_toArray,List.length_take,gL_len]
  omega
 have e0:(⟨#[]⟩:ByteArray).toList.length=0:=by rw [byteArray_len];rfl
 have hp:=gq_pos s
 by_cases hq:gq s=0
 ·rw [hq] at hl
  have h1:=List.eq_nil_of_length_eq_zero hl
  have h2:=List.eq_nil_of_length_eq_zero e0
  rw [h1,h2]
  unfold inEd
  rw [hq];rfl
 ·have:inEd s=true:=by
   unfold inEd
   rw [Bool.and_eq_true,decide_eq_true_iff,decide_eq_true_iff];omega
  rw [this]
  cases hh:((gNm s).toList==(⟨#[]⟩:ByteArray).toList) with
  |false=>rfl
  |true=>
   have:=congrArg List.length (eq_of_beq hh)
   omega
theorem ent_eq {s:RS} (h:gq s≤16):entG s=entH s:=by
 unfold entG entH gNm
 rw [gN_small h,List.drop_zero,Nat.sub_zero]
theorem stE_stH {b:List UInt8} (hb:b.length=128) (hs:small b) (X:List Rw):∀ k,k≤5→(stE X (RS.new b) k).1=stH b X k
 |0,_=>rfl
 |k+1,h=>by
  have ih:=stE_stH hb hs X k (by omega)
  have h16:=hs k (by omega)
  unfold stE stH
  rw [stE_s hb X k (by omega),ih,slE_at b (by omega),nm_none h16,ent_eq h16]
  cases inEd ⟨b,172 * k,0⟩<;>rfl
def Good (L:List (List UInt8)):Prop:=∀ l∈L,l.length=128∧small l
theorem sto_str {L:List (List UInt8)} (h:Good L):∀ k,k≤L.length→stO L k=stR L k
 |0,_=>rfl
 |k+1,hk=>by
  obtain ⟨h1,h2⟩:=h (L.getD k []) (by rw [List.getD_eq_getElem?_getD,List.getElem?_eq_getElem (show k<L.length by omega)];exact List.getElem_mem _)
  show (stE (stO L k) (RS.new (L.getD k [])) 5).1=stH (L.getD k []) (stR L k) 5
  rw [stE_stH h1 h2 _ 5 (Nat.le_refl _),sto_str h k (by omega)]
theorem small_blk {Y:List Rw} (hl:Y.length≤5) (hr:∀ r∈Y,isR r=true):(blkD Y).length=128∧small (blkD Y):=by
 refine ⟨blkD_len hl,fun k hk=>?_⟩
 rcases Nat.lt_or_ge k Y.length with h|h
 ·exact (slot_in hl hr h).2.2.2.2
 ·exact (slot_out hl h hk).2.2
theorem okP_right {R:List Rw} (h:okP R=true):∀ r∈R,isR r=true:=fun r hr=>by
 have h2:=(Bool.and_eq_true_iff.1 h).2
 obtain ⟨j,hj,rfl⟩:=List.getElem_of_mem hr
 have:=allI_iff.1 h2 (j:Int) (by omega) (by simpa using hj)
 unfold isI at this
 rw [Int.toNat_natCast,List.getD_eq_getElem?_getD,List.getElem?_eq_getElem hj] at this
 exact this
theorem blksD_good {R:List Rw} (h:∀ r∈R,isR r=true):∀ k,Good (blksD R k)
 |0=>fun l hl=>by cases hl
 |k+1=>fun l hl=>by
  have hl:l∈blksD R k++[blkD ((R.drop (5 * k)).take 5)]:=hl
  rcases List.mem_append.1 hl with h'|h'
  ·exact blksD_good h k l h'
  ·rw [List.mem_singleton] at h'
   subst h'
   exact small_blk (List.length_take_le ..) fun r hr=>h r (List.mem_of_mem_drop (List.mem_of_mem_take hr))
theorem rbB_good (R:List Rw):Good (rbB R):=by
 unfold rbB
 rw [← okP_is]
 cases h:okP R with
 |false=>exact fun l hl=>by cases hl
 |true=>
  rw [Bool.true_and]
  cases decide ((R.length:Int)>24) with
  |true=>exact fun l hl=>by cases hl
  |false=>exact blksD_good (okP_right h) _
theorem stH_blk {Y:List Rw} (hl:Y.length≤5) (hr:∀ r∈Y,isR r=true) (X:List Rw):∀ j,j≤5→stH (blkD Y) X j=X++(Y.take j).map nrm4
 |0,_=>by simp [stH]
 |j+1,h=>by
  have ih:=stH_blk hl hr X j (by omega)
  unfold stH
  rw [slE_at _ (by omega),ih]
  rcases Nat.lt_or_ge j Y.length with hj|hj
  ·obtain ⟨h1,_,h3,_⟩:=slot_in hl hr hj
   rw [h3,h1,cond_true,List.append_assoc,List.take_add_one,List.map_append]
   congr 2
   rw [List.getD_eq_getElem?_getD,List.getElem?_eq_getElem hj];rfl
  ·obtain ⟨h1,_⟩:=slot_out hl hj (by omega)
   rw [h1,cond_false,List.take_of_length_le hj,List.take_of_length_le (by omega)]
theorem stR_blks {R:List Rw} (hr:∀ r∈R,isR r=true):∀ n k,k≤n→stR (blksD R n) k=(R.take (5 * k)).map nrm4
 |n,0,_=>rfl
 |n,k+1,h=>by
  have ih:=stR_blks hr n k (by omega)
  have hat:∀ n,k<n→(blksD R n).getD k []=blkD ((R.drop (5 * k)).take 5):=by
   intro n
   induction n with
   |zero=>intro h;omega
   |succ n ihn=>
    intro hk
    have hln:∀ m,(blksD R m).length=m:=fun m=>by
     induction m with
     |zero=>rfl
     |succ m ihm=>show (blksD R m++[_]).length=_;rw [List.length_append,ihm];rfl
    show (blksD R n++[_]).getD k []=_
    rcases Nat.lt_or_ge k n with hh|hh
    ·rw [List.getD_eq_getElem?_getD,List.getElem?_append_left (by rw [hln];exact hh),←List.getD_eq_getElem?_getD]
     exact ihn hh
    ·have:k=n:=by omega
     subst this
     rw [List.getD_eq_getElem?_getD,List.getElem?_append_right (by rw [hln];exact Nat.le_refl _),hln,Nat.sub_self];rfl
  show stH ((blksD R n).getD k []) (stR (blksD R n) k) 5=_
  rw [ih,hat n (by omega),stH_blk (List.length_take_le ..) (fun r hr'=>hr r (List.mem_of_mem_drop (List.mem_of_mem_take hr'))) _ 5 (Nat.le_refl _),←List.map_append,List.take_take,Nat.min_self]
  congr 1
  rw [Nat.mul_succ,List.take_add]
theorem back {R:List Rw} (hE:dbE R=0) (hn:R.map nrm4=R):deOk (dbB R)=true∧deR (dbB R)=R:=by
 have hok:okP R=true∧decide ((R.length:Int)>24)=false:=by
  unfold dbE at hE
  cases h:okP R with
  |false=>rw [h] at hE;cases hE
  |true=>
   cases h2:decide ((R.length:Int)>24) with
   |false=>exact ⟨rfl,rfl⟩
   |true=>rw [h,h2] at hE;cases hE
 have hB:dbB R=blksD R (nbR R):=by
  rw [dbB_is]
  unfold rbB
  rw [← okP_is,hok.1,hok.2];rfl
 have hlen:(blksD R (nbR R)).length=nbR R:=by
  have:=blks_is (okP_right hok.1) (nbR R)
  rw [← this,blksP_len]
 have hs:stR (dbB R) (dbB R).length=R:=by
  rw [hB,hlen,stR_blks (okP_right hok.1) _ _ (Nat.le_refl _),List.take_of_length_le (by unfold nbR;omega),hn]
 have hg:Good (dbB R):=by rw [dbB_is];exact rbB_good R
 have hs':stO (dbB R) (dbB R).length=R:=by rw [sto_str hg _ (Nat.le_refl _),hs]
 have h1:deOk (dbB R)=true:=by
  unfold deOk
  rw [hs',hE]
  simp
 refine ⟨h1,?_⟩
 unfold deR
 rw [h1,hs'];rfl
end Go.Proofs.Ytdenmoiaiemokaa
set_option linter.unusedVariables false
set_option linter.unusedSimpArgs false
namespace Go.Proofs.Ytdenmoiaiemokaa
open Go.RowKit
end Go.Proofs.Ytdenmoiaiemokaa
set_option linter.unusedVariables false
set_option linter.unusedSimpArgs false
namespace Go.Proofs.Ytdenmoiaiemokaa
open Go.RowKit Go.ChangeShapes Go.WideShapes Go.ChangeAt
theorem args_us {w:World} {e:Env} {mem:Mem Td} (h:MemOk w (FootOf Id' w e mem) Id' w e mem) (hro:∀ n∈mem,n.mu=false) {u:Value} {b:Td} (hb:Id'.holds b w u) (hlt:∀ k,Id'.foot b w u k→k<w.heap.size):MemOk w (FootOf Id' w (e++[u]) (mem++[⟨.us b,false⟩])) Id' w (e++[u]) (mem++[⟨.us b,false⟩]):=by
 have hget:∀ (i:Nat) (v:Value) (n:En Td),(e++[u])[i]? =some v→(mem++[⟨.us b,false⟩])[i]? =some n→(e[i]? =some v∧mem[i]? =some n)∨(v=u∧n=⟨.us b,false⟩):=fun i v n hv hn=>by
  have hl:=h.len
  rcases Nat.lt_or_ge i e.length with hi|hi
  ·rw [List.getElem?_append_left hi] at hv
   rw [List.getElem?_append_left (by omega)] at hn
   exact .inl ⟨hv,hn⟩
  ·rw [List.getElem?_append_right hi] at hv
   rw [List.getElem?_append_right (by omega)] at hn
   rw [hl] at hv
   cases hq:i - mem.length with
   |zero=>rw [hq] at hv hn;simp at hv hn;exact .inr ⟨hv.symm,hn.symm⟩
   |succ q=>rw [hq] at hv;simp at hv
 have hmu:∀ (i:Nat) (v:Value) (n:En Td),(e++[u])[i]? =some v→(mem++[⟨.us b,false⟩])[i]? =some n→n.mu=false:=fun i v n hv hn=>by
  rcases hget i v n hv hn with ⟨_,h2⟩|⟨_,rfl⟩
  ·exact hro n (List.mem_of_getElem? h2)
  ·rfl
 refine ⟨by simp [h.len],fun i v n hv hn=>?_,fun i v n hv hn k hk=>?_,fun i v n hv hn hm=>?_,fun i j v x n m hv hn hm=>?_,Mod.refl _ w,fun i v n hv hn k hk=>.inr (footO.2 ⟨i,v,n,hv,hn,hk⟩)⟩
 ·rcases hget i v n hv hn with ⟨h1,h2⟩|⟨rfl,rfl⟩
  ·exact (h.holds i v n h1 h2).mono (Grows.push e u)
  ·exact hb
 ·rcases hget i v n hv hn with ⟨h1,h2⟩|⟨rfl,rfl⟩
  ·exact h.lt i v n h1 h2 k hk
  ·exact hlt k hk
 ·rw [hmu i v n hv hn] at hm;cases hm
 ·rw [hmu i v n hv hn] at hm;cases hm
theorem rs_lt {w:World} {sz n:Nat} {u:Value} {vals:List Value} (h:Rs w sz u n vals) (hn:n≠0) (hs:0<sz) {k:Nat} (hk:u.ownBlock=some k):k<w.heap.size:=by
 obtain ⟨hl,ao,cap,rfl,h2,h3,h4,h5⟩:=h
 cases ao with
 |none=>cases hk
 |some a=>
  have hlt:0<vals.length:=by rw [hl];exact Nat.mul_pos (by omega) hs
  have:=h5 a rfl 0 _ (List.getElem?_eq_getElem hlt)
  have hb:=World.block_lt_of_cell? w _ this
  rw [add_block] at hb
  cases hk
  exact hb
theorem vw_lt {w:World} {u:Value} {ks:List Bool} {R:List Rw} (h:dkHolds (.vw ks R) w u):∀ k,Id'.foot (.ext (.vw ks R)) w u k→k<w.heap.size:=fun k ⟨h1,h2⟩=>rs_lt h.2 (fun e=>h1 (List.eq_nil_of_length_eq_zero e)) h.1 h2
theorem vw_of {w:World} {ks:List Bool} (hk:0<ks.length) {ao:Option Addr} {len cap:Nat} {R:List Rw} (hl:R.length=len) (h1:len≤cap) (h2:cap≤9223372036854775807) (h3:ao=none→cap=0)
  (hd:∀ i (r:Rw),R[i]? =some r→∃ b o,ao=some ⟨b,o,none⟩∧∀ j,j<ks.length→w.cell? ⟨b,o+i * ks.length+j,none⟩=(rwV ks r)[j]?):dkHolds (.vw ks R) w (.slice ao len cap):=by
 have hlen:∀ r∈R.map (rwV ks),r.length=ks.length:=fun r hr=>by obtain ⟨x,_,rfl⟩:=List.mem_map.1 hr;exact rwV_len ks x
 have hfl:((R.map (rwV ks)).flatten).length=R.length * ks.length:=by rw [flat_len hlen,List.length_map]
 refine ⟨hk,hfl,ao,cap,by rw [hl],by rw [hl];exact h1,h2,h3,fun a ha p u hu=>?_⟩
 have hp:p<R.length * ks.length:=by rw [← hfl];exact (List.getElem?_eq_some_iff.1 hu).1
 have hi:p / ks.length<R.length:=Nat.div_lt_of_lt_mul (by rw [Nat.mul_comm];exact hp)
 have hj:p % ks.length<ks.length:=Nat.mod_lt _ hk
 have hpe:p / ks.length * ks.length+p % ks.length=p:=by rw [Nat.mul_comm];exact Nat.div_add_mod p ks.length
 obtain ⟨b,o,e,hc⟩:=hd _ _ (List.getElem?_eq_getElem hi)
 subst ha
 cases e
 have hv:(rwV ks R[p / ks.length])[p % ks.length]? =some u:=by
  have h5:=flat_get hlen (i:=p / ks.length) (j:=p % ks.length) (r:=rwV ks R[p / ks.length]) (v:=(rwV ks R[p / ks.length])[p % ks.length]'(by rw [rwV_len];exact hj)) (by rw [List.getElem?_map,List.getElem?_eq_getElem hi];rfl) (List.getElem?_eq_getElem _)
  rw [hpe,hu] at h5
  rw [h5]
  exact List.getElem?_eq_getElem _
 rw [Addr.add_mid]
 have:=hc _ hj
 rw [Nat.add_assoc,hpe,hv] at this
 exact this
section
variable {H:Type} {enc:TypeId×Value→H} {W:World}
theorem read_fileR {cs:List Value} {fuel:Nat} {x:DataW H×List MemPlace} (hl:cs.length=2) (h:DataW.trod enc Try.prog W 0 (fun _=>true) true fuel 57 cs=some x):
  ∃ a b:Int,cs=[.int .i64 a,.int .i64 b]:=by
 obtain ⟨c0,c1,rfl⟩:∃ a b,cs=[a,b]:=by
  match cs,hl with
  |[a,b],_=>exact ⟨a,b,rfl⟩
 obtain ⟨xs,n,_,_,_,hx,hf⟩:=DataW.trod_struct Try.underlying57 h
 have hx4:xs.length=2:=hx
 have f0:=hf 0 _ rfl
 have f1:=hf 1 _ rfl
 rw [List.getElem?_eq_getElem (by omega)] at f0 f1
 obtain ⟨k,e0,_,_⟩:=DataW.trod_int Try.underlying3 f0
 obtain ⟨t,e1,_,_⟩:=DataW.trod_int Try.underlying3 f1
 have ci:Try.prog.cellsOf 3=1:=by kernel_rfl
 have g0:c0=.int .i64 k:=by simpa [ci] using e0
 have g1:c1=.int .i64 t:=by simpa [ci] using e1
 exact ⟨k,t,by rw [g0,g1]⟩
end
end Go.Proofs.Ytdenmoiaiemokaa
set_option linter.unusedVariables false
set_option linter.unusedSimpArgs false
namespace Go.Proofs.Ytdenmoiaiemokaa
open Go.RowKit Go.ChangeShapes Go.WideShapes Go.ChangeAt
section
variable {H:Type} {enc:TypeId×Value→H} {W:World}
theorem read_rdoR {cs:List Value} {fuel:Nat} {x:DataW H×List MemPlace} (hl:cs.length=5) (h:DataW.trod enc Try.prog W 0 (fun _=>true) true fuel 63 cs=some x):
  ∃ d:Rw,cs=rwV [false,false,false,false,false] d:=by
 obtain ⟨c0,c1,c2,c3,c4,rfl⟩:∃ a b c d e,cs=[a,b,c,d,e]:=by
  match cs,hl with
  |[a,b,c,d,e],_=>exact ⟨a,b,c,d,e,rfl⟩
 obtain ⟨xs,n,_,_,_,hx,hf⟩:=DataW.trod_struct Try.underlying63 h
 have hx4:xs.length=4:=hx
 have f0:=hf 0 _ rfl
 have f1:=hf 1 _ rfl
 have f2:=hf 2 _ rfl
 have f3:=hf 3 _ rfl
 rw [List.getElem?_eq_getElem (by omega)] at f0 f1 f2 f3
 have ci:Try.prog.cellsOf 3=1:=by kernel_rfl
 have cf:Try.prog.cellsOf 57=2:=by kernel_rfl
 obtain ⟨k,e0,_,_⟩:=DataW.trod_int Try.underlying3 f0
 obtain ⟨c,e1,_,_⟩:=DataW.trod_int Try.underlying3 f1
 obtain ⟨m,e2,_,_⟩:=DataW.trod_int Try.underlying3 f2
 obtain ⟨a,b,e3⟩:=read_fileR (by simp [ci,cf]) f3
 have g0:c0=.int .i64 k:=by simpa [ci] using e0
 have g1:c1=.int .i64 c:=by simpa [ci] using e1
 have g2:c2=.int .i64 m:=by simpa [ci] using e2
 have g3:c3=.int .i64 a∧c4=.int .i64 b:=by simpa [ci,cf] using e3
 exact ⟨⟨[k,c,m,a,b],[]⟩,by rw [g0,g1,g2,g3.1,g3.2];rfl⟩
def RdosIs (w:World) (u:Value) (R:List Rw):Prop:=dkHolds (.vw [false,false,false,false,false] R) w u
theorem read_rdos {cs:List Value} {fuel:Nat} {x:DataW H×List MemPlace} (h:DataW.trod enc Try.prog W 0 (fun _=>true) true fuel 55 cs=some x):∃ v l,cs=[v]∧RdosIs W v l:=by
 obtain ⟨ao,len,cap,rfl,h1,h2,h3,h4⟩:=read_slice (c:=5) Try.underlying55 (by kernel_rfl) (by decide) h
 obtain ⟨ds,hl,hd⟩:=list_of_lt (p:=fun i (d:Rw)=>∃ b o,ao=some ⟨b,o,none⟩∧∀ j,j<5→W.cell? ⟨b,o+i * 5+j,none⟩=(rwV [false,false,false,false,false] d)[j]?) len fun i hi=>by
  obtain ⟨b,o,cs',f,y,e1,e2,e3,e4⟩:=h4 i hi
  obtain ⟨d,rfl⟩:=read_rdoR e2 e4
  exact ⟨d,b,o,e1,e3⟩
 exact ⟨_,ds,rfl,vw_of (by decide) hl h1 h2 h3 fun i r hr=>hd i r hr⟩
end
end Go.Proofs.Ytdenmoiaiemokaa
set_option linter.unusedVariables false
set_option linter.unusedSimpArgs false
namespace Go.Proofs.Ytdenmoiaiemokaa
open Go.RowKit Go.ChangeShapes Go.WideShapes Go.ChangeAt
theorem recallNeeds_calls (v:Value) (l:List Rw) (f:Int×Int) (cl md:Int) (W:World) (h:RdosIs W v l) (_:True) (_:-9223372036854775808≤cl∧cl≤9223372036854775807) (_:-9223372036854775808≤md∧md≤9223372036854775807):Calls Try.prog 4 #[v,.agg #[.int .i64 f.1,.int .i64 f.2],.int .i64 cl,.int .i64 md] W fun e w'=>e=.returned (.bool true)∧Below W.heap.size W w':=by
 have hM:=args_us (args_nil Id' W) (fun n hn=>by cases hn) (b:=.ext (.vw [false,false,false,false,false] l)) (u:=v) h (vw_lt h)
 refine (rnall_c l f.1 f.2 cl md W [v] [v,.agg #[.int .i64 f.1,.int .i64 f.2],.int .i64 cl,.int .i64 md] hM ⟨rfl,⟨[.int .i64 f.1,.int .i64 f.2],⟨rfl,rfl,trivial⟩,rfl⟩,rfl,rfl,trivial⟩).mono fun y w' ⟨u,e',h1,_,h2,h3⟩=>⟨h1.trans (congrArg _ h2),?_⟩
 have hx:Ext W w':=h3.mod.mono fun k _ hk=>by
  obtain ⟨i,_,n,_,hn,hmu,_⟩:=footE.1 hk
  cases i with
  |zero=>simp at hn;subst hn;cases hmu
  |succ i=>simp at hn
 exact hx.below
end Go.Proofs.Ytdenmoiaiemokaa
