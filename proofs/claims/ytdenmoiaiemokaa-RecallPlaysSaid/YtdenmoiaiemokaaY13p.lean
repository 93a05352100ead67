/- W1 W2 W3 W4 W5 W6 W7 W8 W9 W10 W11 W12 W13 W14 W15 W16 Y7 Y8 Y9 Y10 Y11 Y12 Y13. -/
import Derived.Test.YtdenmoiaiemokaaH13p
import Derived.Lib.Bytealg
import Derived.Lib.Strings
import Derived.Lib.Slices
import Derived.Lib.Walk
import Derived.Laws.RangeAny
import Derived.Laws.RangeString
import Derived.Lib.OthersKept
import Derived.LoopTactic
import Derived.IntWalk
import Derived.Test.YtdenmoiaiemokaaY6p
set_option maxRecDepth 100000
set_option linter.unusedSimpArgs false
set_option linter.unusedVariables false
namespace Go.Proofs.Ytdenmoiaiemokaa
open Go.RowKit
def nmR (R:List Rw) (i:Int):ByteArray:=(R.getD i.toNat Rw.zero).ss.getD 0 ⟨#[]⟩
def nrm4 (r:Rw):Rw:=⟨[r.is.getD 0 0,r.is.getD 1 0,r.is.getD 2 0],[r.ss.getD 0 ⟨#[]⟩]⟩
def tbE (L:List (List UInt8)) (i:Nat):List CD:=[.bs (L.getD i [])]
def wkO:Ob Td→Option (Ob Td)
 |.us (.ext (.tab (.bs L)))=>some (.us (.ext (.shr 1 L.length (tbE L))))
 |.us (.ext (.flat (.rw _ ks R)))=>(match ks with|[]=>none|_::_=>some (.us (.ext (.vw ks R))))
 |.us (.own l)=>some (.us (.byt l))
 |_=>none
def wkE (en:En Td):En Td:=match en.mu,wkO en.ob with
 |true,some o=>⟨o,false⟩
 |_,_=>en
def wkM:Mem Td→Mem Td
 |[]=>[]
 |en::r=>wkE en::wkM r
def kpE (en:En Td):Bool:=!en.mu||(match wkO en.ob with|some _=>true|none=>false)
def nwE (en:En Td):Bool:=match en.ob with
 |.dead=>true
 |.us (.ext (.flat _))=>en.mu
 |.us (.own _)=>en.mu
 |.blk _=>en.mu
 |.bx _=>en.mu
 |_=>false
def reW:Mem Td→Mem Td→Option (Mem Td)
 |[],[]=>some []
 |[],m::sm=>(match nwE m,reW [] sm with|true,some q=>some (m::q)|_,_=>none)
 |s::r,m::sm=>(match kpE s||nwE m,reW r sm with|true,some q=>some ((match kpE s with|true=>s|false=>m)::q)|_,_=>none)
 |_::_,[]=>none
def wkC (C:Ctr Td):Ctr Td:=fun us sub=>match C us (wkM sub) with
 |some (ps,x,sm)=>(match reW sub sm with|some q=>some (ps,x,q)|none=>none)
 |none=>none
theorem wkM_len:∀ m:Mem Td,(wkM m).length=m.length
 |[]=>rfl
 |_::r=>by simp [wkM,wkM_len r]
theorem wkM_get:∀ (m:Mem Td) (i:Nat),(wkM m)[i]? =m[i]?.map wkE
 |[],i=>by simp [wkM]
 |en::r,0=>by simp [wkM]
 |en::r,i+1=>by simp only [wkM,List.getElem?_cons_succ];exact wkM_get r i
theorem wkE_cases (en:En Td):(wkE en=en∧(en.mu=true→kpE en=false))∨(en.mu=true∧∃ o,wkO en.ob=some o∧wkE en=⟨o,false⟩):=by
 obtain ⟨ob,mu⟩:=en
 cases mu with
 |false=>exact .inl ⟨rfl,fun h=>by cases h⟩
 |true=>
  cases ho:wkO ob with
  |none=>exact .inl ⟨by simp [wkE,ho],fun _=>by simp [kpE,ho]⟩
  |some o=>exact .inr ⟨rfl,o,by first|exact ho|rfl,by simp [wkE,ho]⟩
theorem wkO_inv {ob o:Ob Td} (h:wkO ob=some o):(∃ t k ks R,ob=.us (.ext (.flat (.rw t (k::ks) R)))∧o=.us (.ext (.vw (k::ks) R)))∨(∃ l,ob=.us (.own l)∧o=.us (.byt l))∨∃ L,ob=.us (.ext (.tab (.bs L)))∧o=.us (.ext (.shr 1 L.length (tbE L))):=by
 unfold wkO at h
 split at h
 ·simp only [Option.some.injEq] at h;exact .inr (.inr ⟨_,rfl,h.symm⟩)
 ·rename_i t ks R
  cases ks with
  |nil=>cases h
  |cons k ks=>simp only [Option.some.injEq] at h;exact .inl ⟨t,k,ks,R,rfl,h.symm⟩
 ·simp only [Option.some.injEq] at h;exact .inr (.inl ⟨_,rfl,h.symm⟩)
 ·cases h
theorem tab0_cells:∀ {L:List (List UInt8)} {vals:List Value},vals.length=L.length→tabCells (TB.bs L).R vals=vals
 |[],[],_=>rfl
 |l::L,v::vals,h=>by
  have:=tab0_cells (L:=L) (vals:=vals) (by simpa using h)
  show tabCells (([],l)::(TB.bs L).R) (v::vals)=_
  rw [tabCells_cons,this];rfl
 |[],_::_,h=>by simp at h
 |_::_,[],h=>by simp at h
theorem tab0_at {w:World} {u:Value} {L:List (List UInt8)} (h:tabHolds (TB.bs L).t (TB.bs L).k (TB.bs L).R w u):∃ vals:List Value,vals.length=L.length∧Rs w 1 u L.length vals∧∀ (i:Nat) (v:Value),vals[i]? =some v→Bs w v (L.getD i []):=by
 obtain ⟨_,_,vals,hl,⟨B,_,ho⟩,hr⟩:=h
 have hR:(TB.bs L).R.length=L.length:=by simp [TB.R]
 rw [hR] at hl
 refine ⟨vals,hl,?_,fun i v hv=>?_⟩
 ·have:=Rs.of_owns ho
  rw [tab0_cells hl,hR] at this
  exact this
 ·have hi:i<L.length:=by rw [← hl];exact (List.getElem?_eq_some_iff.1 hv).1
  have:=(hr i v ([],L.getD i []) hv (by simp [TB.R,List.getD_eq_getElem?_getD,List.getElem?_eq_getElem hi])).1
  exact this
theorem wkO_holds {e:Env} {w:World} {u:Value} {m m':Bool} {ob o:Ob Td} (h:wkO ob=some o) (hh:Holds Id' e w u m ob):Holds Id' e w u m' o:=by
 rcases wkO_inv h with ⟨t,k,ks,R,rfl,rfl⟩|⟨l,rfl,rfl⟩|⟨L,rfl,rfl⟩
 ·obtain ⟨_,B,_,ho⟩:=hh
  have:=Rs.of_owns ho
  simp only [FL.len] at this
  exact ⟨by simp,this⟩
 ·obtain ⟨B,_,ho⟩:=hh
  exact Rs.of_owns ho
 ·obtain ⟨vals,hl,hR,hv⟩:=tab0_at hh
  refine ⟨by decide,vals,hR,fun i j c v hi hj hc hcv=>?_⟩
  obtain rfl:j=0:=by omega
  simp only [tbE,List.getElem?_cons_zero,Option.some.injEq] at hc
  subst hc
  exact hv i v (by simpa using hcv)
theorem wkO_foot {w:World} {u:Value} {ob o:Ob Td} (h:wkO ob=some o) {k:Nat} (hk:Foot Id' w u o k):Foot Id' w u ob k:=by
 rcases wkO_inv h with ⟨t,k',ks,R,rfl,rfl⟩|⟨l,rfl,rfl⟩|⟨L,rfl,rfl⟩
 ·exact hk.2
 ·exact hk.2
 ·rcases hk with hk|⟨i,j,c,v,hi,hj,hc,hf,⟨a,n,cap,hu,hcl⟩,hv⟩
  ·exact .inl hk.2
  ·obtain rfl:j=0:=by omega
   simp only [tbE,List.getElem?_cons_zero,Option.some.injEq] at hc
   subst hc
   refine .inr ⟨i,([],L.getD i []),v,?_,hf,⟨a,n,cap,hu,?_⟩,hv⟩
   ·simp [TB.R,List.getD_eq_getElem?_getD,List.getElem?_eq_getElem hi]
   ·have e:i * 1+0=i * (0+1)+0:=by omega
    rw [e] at hcl
    exact hcl
theorem wkE_foot {en:En Td} {w:World} {u:Value} {k:Nat} (h:Foot Id' w u (wkE en).ob k):Foot Id' w u en.ob k:=by
 rcases wkE_cases en with ⟨he,_⟩|⟨_,o,ho,he⟩
 ·rw [he] at h;exact h
 ·rw [he] at h;exact wkO_foot ho h
theorem wkE_mu {en:En Td} (h:(wkE en).mu=true):wkE en=en∧en.mu=true∧kpE en=false:=by
 rcases wkE_cases en with ⟨he,hk⟩|⟨_,o,ho,he⟩
 ·rw [he] at h;exact ⟨he,h,hk h⟩
 ·rw [he] at h;cases h
theorem wkM_inv {mem:Mem Td} {i:Nat} {n:En Td} (h:(wkM mem)[i]? =some n):∃ en,mem[i]? =some en∧n=wkE en:=by
 rw [wkM_get] at h
 cases hm:mem[i]? with
 |none=>rw [hm] at h;cases h
 |some en=>rw [hm] at h;simp only [Option.map_some,Option.some.injEq] at h;exact ⟨en,rfl,h.symm⟩
theorem nwE_own {en:En Td} (h:nwE en=true) {w:World} {u:Value} {k:Nat} (hk:Foot Id' w u en.ob k):en.mu=true∧Own Id' w u en.ob k:=by
 obtain ⟨ob,mu⟩:=en
 unfold nwE at h
 split at h
 ·rename_i hb;dsimp only at hb hk;rw [hb] at hk;cases hk
 ·rename_i hb;dsimp only at hb hk h ⊢;rw [hb] at hk ⊢;exact ⟨h,hk⟩
 ·rename_i hb;dsimp only at hb hk h ⊢;rw [hb] at hk ⊢;exact ⟨h,hk⟩
 ·rename_i hb;dsimp only at hb hk h ⊢;rw [hb] at hk ⊢;exact ⟨h,hk⟩
 ·rename_i hb;dsimp only at hb hk h ⊢;rw [hb] at hk ⊢;exact ⟨h,hk⟩
 ·cases h
theorem reW_get:∀ {sub sm q:Mem Td},reW sub sm=some q→q.length=sm.length∧sub.length≤sm.length∧∀ (i:Nat) (n:En Td),q[i]? =some n→(sub[i]? =some n∧kpE n=true)∨(sm[i]? =some n∧nwE n=true)
 |[],[],q,h=>by
  simp only [reW,Option.some.injEq] at h
  subst h
  exact ⟨rfl,Nat.le_refl _,fun i n h=>by simp at h⟩
 |[],m::sm,q,h=>by
  unfold reW at h
  split at h
  ·rename_i q' h1 h2
   simp only [Option.some.injEq] at h
   subst h
   obtain ⟨g1,g2,g3⟩:=reW_get h2
   refine ⟨by simp [g1],by simp,fun i n hn=>?_⟩
   cases i with
   |zero=>simp only [List.getElem?_cons_zero,Option.some.injEq] at hn;subst hn;exact .inr ⟨rfl,h1⟩
   |succ i=>
    rw [List.getElem?_cons_succ] at hn
    rcases g3 i n hn with ⟨h5,_⟩|h5
    ·simp at h5
    ·exact .inr h5
  ·cases h
 |s::r,m::sm,q,h=>by
  unfold reW at h
  split at h
  ·rename_i q' h1 h2
   simp only [Option.some.injEq] at h
   subst h
   obtain ⟨g1,g2,g3⟩:=reW_get h2
   refine ⟨by simp [g1],by simp only [List.length_cons];omega,fun i n hn=>?_⟩
   cases i with
   |zero=>
    simp only [List.getElem?_cons_zero,Option.some.injEq] at hn
    subst hn
    cases hk:kpE s with
    |true=>exact .inl ⟨rfl,hk⟩
    |false=>rw [hk] at h1;exact .inr ⟨rfl,by simpa using h1⟩
   |succ i=>
    rw [List.getElem?_cons_succ] at hn
    exact g3 i n hn
  ·cases h
 |_::_,[],q,h=>by simp [reW] at h
theorem wkC_ok {P:Program} {f:FuncId} {C:Ctr Td} (hC:CtrOk P Id' f C):CtrOk P Id' f (wkC C):=by
 intro us sub ps x q h hp w e vs hM ha
 unfold wkC at h
 split at h
 ·rename_i ps' x' sm h1
  split at h
  ·rename_i q' h2
   simp only [Option.some.injEq,Prod.mk.injEq] at h
   obtain ⟨rfl,rfl,rfl⟩:=h
   have hO:∀ k,OwnOf Id' w e (wkM sub) k→OwnOf Id' w e sub k:=fun k ⟨i,u,n,hu,hn,hmu,hk⟩=>by
    obtain ⟨en,g1,rfl⟩:=wkM_inv hn
    obtain ⟨g2,g3,_⟩:=wkE_mu hmu
    rw [g2] at hk
    exact ⟨i,u,en,hu,g1,g3,hk⟩
   have hF:∀ k,FootOf Id' w e (wkM sub) (2 * k)→OwnOf Id' w e (wkM sub) k:=fun k hk=>by
    rcases hk with ⟨_,hk⟩|⟨hk,_⟩
    ·rw [show 2 * k / 2=k by omega] at hk;exact hk
    ·omega
   have hE:∀ k,OwnOf Id' w e sub k→FootOf Id' w e sub (2 * k):=fun k hk=>.inl ⟨by omega,by rw [show 2 * k / 2=k by omega];exact hk⟩
   have hR:∀ k,ReadOf Id' w e sub k→¬ FootOf Id' w e sub (2 * k+1):=fun k hk hk'=>by
    rcases hk' with ⟨h,_⟩|⟨_,h⟩
    ·omega
    ·rw [show (2 * k+1) / 2=k by omega] at h;exact h hk
   have hs:MemOk w (FootOf Id' w e (wkM sub)) Id' w e (wkM sub):=by
    refine ⟨by rw [wkM_len];exact hM.len,fun i u n hu hn=>?_,fun i u n hu hn k hk=>?_,fun i u n hu hn hmu k hk=>?_,fun i j u v n m hu hn hmu hv hm hij k hk1 hk2=>?_,Mod.refl _ _,fun i u n hu hn k hk=>.inr fun hg=>?_⟩
    ·obtain ⟨en,g1,rfl⟩:=wkM_inv hn
     have hh:=hM.holds i u en hu g1
     rcases wkE_cases en with ⟨he,_⟩|⟨_,o,ho,he⟩
     ·rw [he];exact hh
     ·rw [he];exact wkO_holds ho hh
    ·obtain ⟨en,g1,rfl⟩:=wkM_inv hn
     exact hM.lt i u en hu g1 k (wkE_foot hk)
    ·exact .inr (.inl ⟨by omega,by rw [show 2 * k / 2=k by omega];exact ⟨i,u,n,hu,hn,hmu,hk⟩⟩)
    ·obtain ⟨en,g1,rfl⟩:=wkM_inv hn
     obtain ⟨em,g2,rfl⟩:=wkM_inv hm
     obtain ⟨g3,g4,_⟩:=wkE_mu hmu
     rw [g3] at hk1
     exact hM.sep i j u v en em hu g1 g4 hv g2 hij k hk1 (wkE_foot hk2)
    ·rcases hg with ⟨h,_⟩|⟨_,h⟩
     ·omega
     ·rw [show (2 * k+1) / 2=k by omega] at h;exact h ⟨i,u,n,hu,hn,hk⟩
   refine (hC us (wkM sub) ps' x' sm h1 hp w e vs hs ha).mono fun y w' ⟨v,e',hy,hg,hx,hM'⟩=>⟨v,e',hy,hg,hx,?_⟩
   obtain ⟨q1,q2,q3⟩:=reW_get h2
   -- what is kept is not turned
   have kept:∀ (i:Nat) (n:En Td) (u:Value),sub[i]? =some n→kpE n=true→e[i]? =some u→(∀ k,Foot Id' w u n.ob k→¬ OwnOf Id' w e (wkM sub) k)∧Holds Id' e' w' u n.mu n.ob∧(∀ k,Foot Id' w' u n.ob k→Foot Id' w u n.ob k)∧∀ k,Own Id' w' u n.ob k→Own Id' w u n.ob k:=fun i n u hn hk hu=>by
    have hno:∀ k,Foot Id' w u n.ob k→¬ OwnOf Id' w e (wkM sub) k:=fun k hk1 ⟨j,v,m,hv,hm,hmu,hk2⟩=>by
     obtain ⟨em,g1,rfl⟩:=wkM_inv hm
     obtain ⟨g2,g3,g4⟩:=wkE_mu hmu
     rw [g2] at hk2
     refine hM.sep j i v u em n hv g1 g3 hu hn (fun hij=>?_) k hk2 hk1
     subst hij
     rw [hn] at g1
     cases g1
     rw [hk] at g4;cases g4
    have hh:=hM.holds i u n hu hn
    have hst:=hh.stay hM'.mod (fun k hk1 hk2=>hno k hk1 (hF k hk2))
    exact ⟨hno,hst.1.mono hg,hst.2,hh.stayO hM'.mod (fun k hk1 hk2=>hno k hk1 (hF k hk2))⟩
   have old:∀ (i:Nat) (u:Value) (n:En Td),sub[i]? =some n→e'[i]? =some u→e[i]? =some u:=fun i u n hn hu=>by
    have hlt:i<e.length:=by rw [hM.len];exact (List.getElem?_eq_some_iff.1 hn).1
    have:=hg i _ (List.getElem?_eq_getElem hlt)
    rw [hu] at this
    cases this
    exact List.getElem?_eq_getElem hlt
   have fresh:∀ (i:Nat) (u:Value) (n:En Td),sm[i]? =some n→nwE n=true→e'[i]? =some u→∀ k,Foot Id' w' u n.ob k→w.heap.size≤k∨OwnOf Id' w e (wkM sub) k:=fun i u n hn hw hu k hk=>by
    obtain ⟨g1,g2⟩:=nwE_own hw hk
    rcases hM'.own i u n hu hn g1 k g2 with h|h
    ·exact .inl h
    ·exact .inr (hF k h)
   have apart:∀ (i j:Nat) (u v:Value) (n m:En Td),sub[i]? =some n→kpE n=true→e'[i]? =some u→sm[j]? =some m→nwE m=true→e'[j]? =some v→∀ k,Foot Id' w' u n.ob k→¬ Foot Id' w' v m.ob k:=fun i j u v n m hn hkn hu hm hwm hv k hk1 hk2=>by
    have hu0:=old i u n hn hu
    obtain ⟨g1,_,g3,_⟩:=kept i n u hn hkn hu0
    rcases fresh j v m hm hwm hv k hk2 with h|h
    ·have:=hM.lt i u n hu0 hn k (g3 k hk1);omega
    ·exact g1 k (g3 k hk1) h
   refine ⟨by rw [q1];exact hM'.len,fun i u n hu hn=>?_,fun i u n hu hn k hk=>?_,fun i u n hu hn hmu k hk=>?_,fun i j u v n m hu hn hmu hv hm hij k hk1 hk2=>?_,hM'.mod.mono fun k _ hk=>hE k (hO k (hF k hk)),fun i u n hu hn k hk=>?_⟩
   ·rcases q3 i n hn with ⟨h,hk⟩|⟨h,hk⟩
    ·exact (kept i n u h hk (old i u n h hu)).2.1
    ·exact hM'.holds i u n hu h
   ·rcases q3 i n hn with ⟨h,hk'⟩|⟨h,hk'⟩
    ·have hu0:=old i u n h hu
     have:=hM.lt i u n hu0 h k ((kept i n u h hk' hu0).2.2.1 k hk)
     exact Nat.lt_of_lt_of_le this hM'.mod.size
    ·exact hM'.lt i u n hu h k hk
   ·rcases q3 i n hn with ⟨h,hk'⟩|⟨h,hk'⟩
    ·have hu0:=old i u n h hu
     exact .inr (hE k ⟨i,u,n,hu0,h,hmu,(kept i n u h hk' hu0).2.2.2 k hk⟩)
    ·rcases fresh i u n h hk' hu k hk.foot with g|g
     ·exact .inl g
     ·exact .inr (hE k (hO k g))
   ·rcases q3 i n hn with ⟨h,hkn⟩|⟨h,hkn⟩<;>rcases q3 j m hm with ⟨g,hkm⟩|⟨g,hkm⟩
    ·have hu0:=old i u n h hu
     have hv0:=old j v m g hv
     exact hM.sep i j u v n m hu0 h hmu hv0 g hij k ((kept i n u h hkn hu0).2.2.2 k hk1) ((kept j m v g hkm hv0).2.2.1 k hk2)
    ·exact apart i j u v n m h hkn hu g hkm hv k hk1.foot hk2
    ·exact apart j i v u m n g hkm hv h hkn hu k hk2 hk1.foot
    ·exact hM'.sep i j u v n m hu h hmu hv g hij k hk1 hk2
   ·rcases q3 i n hn with ⟨h,hk'⟩|⟨h,hk'⟩
    ·have hu0:=old i u n h hu
     exact .inr (hR k ⟨i,u,n,hu0,h,(kept i n u h hk' hu0).2.2.1 k hk⟩)
    ·rcases fresh i u n h hk' hu k hk with g|g
     ·exact .inl g
     ·obtain ⟨i',u',n',a1,a2,_,a4⟩:=hO k g
      exact .inr (hR k ⟨i',u',n',a1,a2,a4.foot⟩)
  ·cases h
 ·cases h
def allI (o n:Nat) (p:Int→Bool):Bool:=(List.range n).all fun j=>decide (j<o)||p (j:Int)
theorem allI_cases (o n:Nat) (p:Int→Bool):(allI o n p=true∧∀ i:Int,(o:Int)≤i→i.toNat<n→p i=true)∨(allI o n p=false∧∃ i:Int,(o:Int)≤i∧i.toNat<n∧p i=false):=by
 cases h:allI o n p with
 |true=>
  refine .inl ⟨rfl,fun i h0 h1=>?_⟩
  have:=List.all_eq_true.1 h i.toNat (List.mem_range.2 h1)
  rw [decide_eq_false (by omega),Bool.false_or,Int.toNat_of_nonneg (by omega)] at this
  exact this
 |false=>
  obtain ⟨j,h1,h2⟩:=List.all_eq_false.1 h
  rw [Bool.not_eq_true,Bool.or_eq_false_iff] at h2
  have:=of_decide_eq_false h2.1
  exact .inr ⟨rfl,(j:Int),by omega,by have:=List.mem_range.1 h1;omega,h2.2⟩
def badB (x:UInt8):Bool:=decide ((x.toNat:Int)≤32)||decide ((x.toNat:Int)≥127)||(x.toNat:Int)==47
def goodsB (s:ByteArray):Bool:=s.data.toList.all fun x=>!badB x
def nameB (s:ByteArray):Bool:=goodsB s&&(decide ((s.size:Int)>0)&&decide ((s.size:Int)<17)&&(!(s.toList==(⟨#[46]⟩:ByteArray).toList))&&(!(s.toList==(⟨#[46,46]⟩:ByteArray).toList)))
theorem byteArray_len (s:ByteArray):s.toList.length=s.size:=by rw [ByteArray.toList_eq];simp
def isE (nm:ByteArray) (a b c:Int):Bool:=nameB nm&&decide (a>0)&&decide (a<41)&&decide (b≥0)&&decide (b<2147483648)&&decide (c>0)&&decide (c<3)
def isR (r:Rw):Bool:=isE (r.ss.getD 0 ⟨#[]⟩) (r.is.getD 0 0) (r.is.getD 1 0) (r.is.getD 2 0)
def isI (R:List Rw) (i:Int):Bool:=isR (R.getD i.toNat Rw.zero)
def fstI (n:Nat) (p:Int→Bool):Int:=match (List.range n).find? (fun j:Nat=>!p (j:Int)) with|some j=>(j:Int)|none=>-1
theorem fst_cases (n:Nat) (p:Int→Bool):(fstI n p=-1∧∀ i:Int,((0:Nat):Int)≤i→i.toNat<n→p i=true)∨(((0:Nat):Int)≤fstI n p∧(fstI n p).toNat<n∧p (fstI n p)=false∧∀ i:Int,((0:Nat):Int)≤i→i<fstI n p→p i=true):=by
 unfold fstI
 cases h:(List.range n).find? (fun j:Nat=>!p (j:Int)) with
 |none=>
  refine .inl ⟨rfl,fun i h0 h1=>?_⟩
  have:=List.find?_eq_none.1 h i.toNat (List.mem_range.2 h1)
  rw [Int.toNat_of_nonneg (by omega)] at this
  simpa using this
 |some j=>
  obtain ⟨h1,h2,h3⟩:=List.find?_range_eq_some.1 h
  have h4:=List.mem_range.1 h2
  refine .inr ⟨by simp,by simpa using h4,by simpa using h1,fun i h0 hi=>?_⟩
  have hi:i<(j:Int):=hi
  have:=h3 i.toNat (by omega)
  rw [Int.toNat_of_nonneg (by omega)] at this
  simpa using this
def riseI (R:List Rw) (i:Int):Bool:=Op.bytesLess (nmR R (IntKind.i64.wrap (i - 1))).toList (nmR R i).toList
def riseD (R:List Rw) (i:Int):Bool:=!(!isI R i||decide (i>0)&&(Op.bytesLess (nmR R i).toList (nmR R (IntKind.i64.wrap (i - 1))).toList||(nmR R i).toList==(nmR R (IntKind.i64.wrap (i - 1))).toList))
def chI (nm:ByteArray) (i:Int):Int:=bif decide (i<(nm.size:Int)) then (((nm.data.toList.getD i.toNat 0).toNat:Nat):Int) else 0
def putN (s:WS) (nm:ByteArray):Nat→WS
 |0=>s
 |k+1=>(putN s nm k).put (chI nm (k:Int)) 8
def hitR (Y:List Rw) (a b c i:Int):Bool:=(Y.getD i.toNat Rw.zero).is.getD 0 0==a&&((Y.getD i.toNat Rw.zero).is.getD 1 0==b&&true)&&(Y.getD i.toNat Rw.zero).is.getD 2 0==c
def atP (Y:List Rw) (a b c i:Int):Bool:=!hitR Y a b c i
def atE (Y:List Rw) (a b c:Int):Int:=fstI Y.length (atP Y a b c)
theorem hit_no {Y:List Rw} {a b c i:Int} (h:atP Y a b c i=true):hitR Y a b c i=false:=by simpa [atP] using h
theorem hit_yes {Y:List Rw} {a b c i:Int} (h:atP Y a b c i=false):hitR Y a b c i=true:=by simpa [atP] using h
theorem rat21_n (Y:List Rw) (a b c:Int) (i i2:Int) (k:Nat) (f:Nat→Value) (h0:decide (i<(Y.length:Int))=true) (h1:IntKind.i64.wrap (i+1)=i2) (h2:0≤i∧i.toNat<Y.length) (h3:atP Y a b c (i)=true):∃ qs,alN Id' 3 [(7,.c (.one (.v (.int .i64 i2))))] [⟨.bx [.obj 1],false⟩,⟨.us (.ext (.flat (.rw 178 [false,false,false,false] Y))),false⟩,⟨.blk [.v (.int .i64 a),.v (.int .i64 b)],true⟩] ((symC (⟨Try.prog,[],[E_of Try.prog 57],dkHo,Id'.one,60⟩:Sy Td) [] 40 (hdC (loopsC (bodyOf Try.f112)) 0) ⟨[(7,.c (.one (.v (.int .i64 i))))]++anyB' (writesC (hdC (loopsC (bodyOf Try.f112)) 0)) ([(0,.c (.one (.ptr 0 0))),(2,.c (.one (.v (.int .i64 c)))),(4,.c (.one (.ptr 2 0)))]++tabV f 40),[⟨.bx [.obj 1],false⟩,⟨.us (.ext (.flat (.rw 178 [false,false,false,false] Y))),false⟩,⟨.blk [.v (.int .i64 a),.v (.int .i64 b)],true⟩],0⟩).al [true,false])=some qs∧∀ q∈qs,q:=
 ⟨[decide (i<(↑(FL.rw 178 [false,false,false,false] Y).n:Int))=true,((Y.getD i.toNat Rw.zero).is.getD (0:Nat) (0:Int)==a&&((Y.getD i.toNat Rw.zero).is.getD ((0:Nat)+(1:Nat)) (0:Int)==b&&true)&&true)=true→(0:Int)≤i∧i.toNat<(FL.rw 178 [false,false,false,false] Y).n,(0:Int)≤i∧i.toNat<(FL.rw 178 [false,false,false,false] Y).n,((Y.getD i.toNat Rw.zero).is.getD (0:Nat) (0:Int)==a&&((Y.getD i.toNat Rw.zero).is.getD ((0:Nat)+(1:Nat)) (0:Int)==b&&true)&&(Y.getD i.toNat Rw.zero).is.getD ((0:Nat)+(1:Nat)+(1:Nat)) (0:Int)==c)=false,(Th.ext (Dk.flat (FL.rw 178 [false,false,false,false] Y)):Td)=Th.ext (Dk.flat (FL.rw 178 [false,false,false,false] Y)),Value.int IntKind.i64 a=Value.int IntKind.i64 a,Value.int IntKind.i64 b=Value.int IntKind.i64 b,Value.int IntKind.i64 (IntKind.i64.wrap (i+(1:Int)))=Value.int IntKind.i64 i2],by kernel_rfl,(by refine mcons ?_ (mcons ?_ (mcons ?_ (mcons ?_ (mcons ?_ (mcons ?_ (mcons ?_ (mcons ?_ mnil)))))))<;>first|rfl|exact h0|exact h1|exact h2|exact h3|trivial|(exact congrArg _ h1)|(exact h2)|(exact fun _=>h2)|(exact hit_no h3)|(exact hit_yes h3))⟩
theorem rat21_x (Y:List Rw) (a b c:Int) (i i2:Int) (k:Nat) (f:Nat→Value) (h0:decide (i<(Y.length:Int))=false):∃ qs,alX Id' 3 0 [] [⟨.bx [.obj 1],false⟩,⟨.us (.ext (.flat (.rw 178 [false,false,false,false] Y))),false⟩,⟨.blk [.v (.int .i64 a),.v (.int .i64 b)],true⟩] ((symC (⟨Try.prog,[],[E_of Try.prog 57],dkHo,Id'.one,60⟩:Sy Td) [] 40 (hdC (loopsC (bodyOf Try.f112)) 0) ⟨[(7,.c (.one (.v (.int .i64 i))))]++anyB' (writesC (hdC (loopsC (bodyOf Try.f112)) 0)) ([(0,.c (.one (.ptr 0 0))),(2,.c (.one (.v (.int .i64 c)))),(4,.c (.one (.ptr 2 0)))]++tabV f 40),[⟨.bx [.obj 1],false⟩,⟨.us (.ext (.flat (.rw 178 [false,false,false,false] Y))),false⟩,⟨.blk [.v (.int .i64 a),.v (.int .i64 b)],true⟩],0⟩).al [false])=some qs∧∀ q∈qs,q:=
 ⟨[decide (i<(↑(FL.rw 178 [false,false,false,false] Y).n:Int))=false,(Th.ext (Dk.flat (FL.rw 178 [false,false,false,false] Y)):Td)=Th.ext (Dk.flat (FL.rw 178 [false,false,false,false] Y)),Value.int IntKind.i64 a=Value.int IntKind.i64 a,Value.int IntKind.i64 b=Value.int IntKind.i64 b],by kernel_rfl,(by refine mcons ?_ (mcons ?_ (mcons ?_ (mcons ?_ mnil)))<;>first|rfl|exact h0|trivial|(exact congrArg _ h1)|(exact h2)|(exact fun _=>h2)|(exact hit_no h3)|(exact hit_yes h3))⟩
theorem rat21_lpA (Y:List Rw) (a b c:Int) (hL:Y.length≤100000)  (hall:∀ i:Int,0≤i→i.toNat<Y.length→atP Y a b c (i)=true) {W0:World} {G:Nat→Prop} (S0:Sy Td) (hS0:S0.P=Try.prog):LoopSound S0 Id' W0 G 40 (hdC (loopsC (bodyOf Try.f112)) 0) (lpG Id' 40 (hdC (loopsC (bodyOf Try.f112)) 0) 3 [(7,.c (.one (.v (.int .i64 ((0+0:Nat):Int)))))] [(0,.c (.one (.ptr 0 0))),(2,.c (.one (.v (.int .i64 c)))),(4,.c (.one (.ptr 2 0)))] [⟨.bx [.obj 1],false⟩,⟨.us (.ext (.flat (.rw 178 [false,false,false,false] Y))),false⟩,⟨.blk [.v (.int .i64 a),.v (.int .i64 b)],true⟩] (.leaf (.exit 0) [] [⟨.bx [.obj 1],false⟩,⟨.us (.ext (.flat (.rw 178 [false,false,false,false] Y))),false⟩,⟨.blk [.v (.int .i64 a),.v (.int .i64 b)],true⟩])):=by
 refine lp_sound (V:=fun k=>[(7,.c (.one (.v (.int .i64 ((k+0:Nat):Int)))))]) (M:=(fun k=>[⟨.bx [.obj 1],false⟩,⟨.us (.ext (.flat (.rw 178 [false,false,false,false] Y))),false⟩,⟨.blk [.v (.int .i64 a),.v (.int .i64 b)],true⟩]:Nat→Mem Td)) (N:=Y.length) (Ux:=fun k x=>match x with|.exit 0=>some ([],([⟨.bx [.obj 1],false⟩,⟨.us (.ext (.flat (.rw 178 [false,false,false,false] Y))),false⟩,⟨.blk [.v (.int .i64 a),.v (.int .i64 b)],true⟩]:Mem Td))|_=>none) (X:=fun _ _=>True) (J:=fun k=>True) (fun k=>by kernel_rfl) trivial (fun k hk hJ f=>?_) (fun K hK k x U hk hU hX=>?_)
 ·rw [hS0]
  cases hT:decide (((k+0:Nat):Int)<(Y.length:Int)) with
  |false=>
   exact rnd_xD (⟨Try.prog,[],[E_of Try.prog 57],dkHo,Id'.one,60⟩:Sy Td) rfl ((fun (W0:World) (G:Nat→Prop)=>SyOk.mk2 Try.mixed dkHo_ok (FnsR.nil) (E_of_ok (by kernel_rfl) (EqsOk.nil))) W0 G) (rat21_x Y a b c ((k+0:Nat):Int) ((k+1+0:Nat):Int) k f hT) rfl trivial
  |true=>
   have hk1:=of_decide_eq_true hT
   have hW:IntKind.i64.wrap (((k+0:Nat):Int)+1)=((k+1+0:Nat):Int):=by rw [IntWalk.i64_in _ (by omega)];omega
   exact rnd_nD (⟨Try.prog,[],[E_of Try.prog 57],dkHo,Id'.one,60⟩:Sy Td) rfl ((fun (W0:World) (G:Nat→Prop)=>SyOk.mk2 Try.mixed dkHo_ok (FnsR.nil) (E_of_ok (by kernel_rfl) (EqsOk.nil))) W0 G) (rat21_n Y a b c ((k+0:Nat):Int) ((k+1+0:Nat):Int) k f hT hW (by omega) (hall _ (by omega) (by omega)) ) rfl rfl (by omega) trivial
 ·revert hU
  match x with
  |.exit 0=>intro hU;simp only [Option.some.injEq] at hU;subst hU;exact hK
  |.normal=>intro hU;cases hU
  |.ret=>intro hU;cases hU
  |.exit (n+1)=>intro hU;cases hU
theorem rat21_r (Y:List Rw) (a b c:Int) (i i2:Int) (k:Nat) (f:Nat→Value) (h0:decide (i<(Y.length:Int))=true) (h1:i=i2) (h2:0≤i∧i.toNat<Y.length) (h3:atP Y a b c (i)=false):∃ qs,alR Id' 3 [(6,.c (.one (.v (.int .i64 i2))))] [⟨.bx [.obj 1],false⟩,⟨.us (.ext (.flat (.rw 178 [false,false,false,false] Y))),false⟩,⟨.blk [.v (.int .i64 a),.v (.int .i64 b)],true⟩] ((symC (⟨Try.prog,[],[E_of Try.prog 57],dkHo,Id'.one,60⟩:Sy Td) [] 40 (hdC (loopsC (bodyOf Try.f112)) 0) ⟨[(7,.c (.one (.v (.int .i64 i))))]++anyB' (writesC (hdC (loopsC (bodyOf Try.f112)) 0)) ([(0,.c (.one (.ptr 0 0))),(2,.c (.one (.v (.int .i64 c)))),(4,.c (.one (.ptr 2 0)))]++tabV f 40),[⟨.bx [.obj 1],false⟩,⟨.us (.ext (.flat (.rw 178 [false,false,false,false] Y))),false⟩,⟨.blk [.v (.int .i64 a),.v (.int .i64 b)],true⟩],0⟩).al [true,true])=some qs∧∀ q∈qs,q:=
 ⟨[decide (i<(↑(FL.rw 178 [false,false,false,false] Y).n:Int))=true,((Y.getD i.toNat Rw.zero).is.getD (0:Nat) (0:Int)==a&&((Y.getD i.toNat Rw.zero).is.getD ((0:Nat)+(1:Nat)) (0:Int)==b&&true)&&true)=true→(0:Int)≤i∧i.toNat<(FL.rw 178 [false,false,false,false] Y).n,(0:Int)≤i∧i.toNat<(FL.rw 178 [false,false,false,false] Y).n,((Y.getD i.toNat Rw.zero).is.getD (0:Nat) (0:Int)==a&&((Y.getD i.toNat Rw.zero).is.getD ((0:Nat)+(1:Nat)) (0:Int)==b&&true)&&(Y.getD i.toNat Rw.zero).is.getD ((0:Nat)+(1:Nat)+(1:Nat)) (0:Int)==c)=true,(Th.ext (Dk.flat (FL.rw 178 [false,false,false,false] Y)):Td)=Th.ext (Dk.flat (FL.rw 178 [false,false,false,false] Y)),Value.int IntKind.i64 a=Value.int IntKind.i64 a,Value.int IntKind.i64 b=Value.int IntKind.i64 b,Value.int IntKind.i64 i=Value.int IntKind.i64 i2],by kernel_rfl,(by refine mcons ?_ (mcons ?_ (mcons ?_ (mcons ?_ (mcons ?_ (mcons ?_ (mcons ?_ (mcons ?_ mnil)))))))<;>first|rfl|exact h0|exact h1|exact h2|exact h3|trivial|(exact congrArg _ h1)|(exact h2)|(exact fun _=>h2)|(exact hit_no h3)|(exact hit_yes h3))⟩
theorem rat21_lpR (Y:List Rw) (a b c:Int) (e:Int) (hL:Y.length≤100000)  (he0:0≤e∧e.toNat<Y.length) (he1:atP Y a b c (e)=false) (he2:∀ i:Int,0≤i→i<e→atP Y a b c (i)=true) {W0:World} {G:Nat→Prop} (S0:Sy Td) (hS0:S0.P=Try.prog):LoopSound S0 Id' W0 G 40 (hdC (loopsC (bodyOf Try.f112)) 0) (lpG Id' 40 (hdC (loopsC (bodyOf Try.f112)) 0) 3 [(7,.c (.one (.v (.int .i64 ((0+0:Nat):Int)))))] [(0,.c (.one (.ptr 0 0))),(2,.c (.one (.v (.int .i64 c)))),(4,.c (.one (.ptr 2 0)))] [⟨.bx [.obj 1],false⟩,⟨.us (.ext (.flat (.rw 178 [false,false,false,false] Y))),false⟩,⟨.blk [.v (.int .i64 a),.v (.int .i64 b)],true⟩] (.leaf .ret [(6,.c (.one (.v (.int .i64 e))))] [⟨.bx [.obj 1],false⟩,⟨.us (.ext (.flat (.rw 178 [false,false,false,false] Y))),false⟩,⟨.blk [.v (.int .i64 a),.v (.int .i64 b)],true⟩])):=by
 refine lp_sound (V:=fun k=>[(7,.c (.one (.v (.int .i64 ((k+0:Nat):Int)))))]) (M:=(fun k=>[⟨.bx [.obj 1],false⟩,⟨.us (.ext (.flat (.rw 178 [false,false,false,false] Y))),false⟩,⟨.blk [.v (.int .i64 a),.v (.int .i64 b)],true⟩]:Nat→Mem Td)) (N:=Y.length) (Ux:=fun k x=>match x with|.ret=>some ([(6,.c (.one (.v (.int .i64 e))))],([⟨.bx [.obj 1],false⟩,⟨.us (.ext (.flat (.rw 178 [false,false,false,false] Y))),false⟩,⟨.blk [.v (.int .i64 a),.v (.int .i64 b)],true⟩]:Mem Td))|_=>none) (X:=fun _ _=>True) (J:=fun k=>((k+0:Nat):Int)≤e) (fun k=>by kernel_rfl) (by omega) (fun k hk hJ f=>?_) (fun K hK k x U hk hU hX=>?_)
 ·rw [hS0]
  cases hT:decide (((k+0:Nat):Int)<(Y.length:Int)) with
  |false=>
   have:=of_decide_eq_false hT
   omega
  |true=>
   have hk1:=of_decide_eq_true hT
   have hW:IntKind.i64.wrap (((k+0:Nat):Int)+1)=((k+1+0:Nat):Int):=by rw [IntWalk.i64_in _ (by omega)];omega
   cases hq:atP Y a b c (((k+0:Nat):Int)) with
   |true=>
    exact rnd_nD (⟨Try.prog,[],[E_of Try.prog 57],dkHo,Id'.one,60⟩:Sy Td) rfl ((fun (W0:World) (G:Nat→Prop)=>SyOk.mk2 Try.mixed dkHo_ok (FnsR.nil) (E_of_ok (by kernel_rfl) (EqsOk.nil))) W0 G) (rat21_n Y a b c ((k+0:Nat):Int) ((k+1+0:Nat):Int) k f hT hW (by omega) hq ) rfl rfl (by omega) (by
     rcases Int.lt_or_eq_of_le hJ with h|h
     ·omega
     ·rw [h,he1] at hq;cases hq)
   |false=>
    have hie:((k+0:Nat):Int)=e:=by
     rcases Int.lt_or_eq_of_le hJ with h|h
     ·rw [he2 _ (by omega) h] at hq;cases hq
     ·exact h
    exact rnd_rD (⟨Try.prog,[],[E_of Try.prog 57],dkHo,Id'.one,60⟩:Sy Td) rfl ((fun (W0:World) (G:Nat→Prop)=>SyOk.mk2 Try.mixed dkHo_ok (FnsR.nil) (E_of_ok (by kernel_rfl) (EqsOk.nil))) W0 G) (rat21_r Y a b c ((k+0:Nat):Int) e k f hT hie (by omega) hq ) rfl trivial
 ·revert hU
  match x with
  |.ret=>intro hU;simp only [Option.some.injEq] at hU;subst hU;exact hK
  |.normal=>intro hU;cases hU
  |.exit n=>intro hU;cases hU
theorem rat21A_w0 (Y:List Rw) (a b c:Int) :∃ qs,wayV ((runFn (⟨Try.prog,[],[E_of Try.prog 57],dkHo,Id'.one,60⟩:Sy Td) [(2,(lpG Id' 40 (hdC (loopsC (bodyOf Try.f112)) 0) 3 [(7,.c (.one (.v (.int .i64 ((0+0:Nat):Int)))))] [(0,.c (.one (.ptr 0 0))),(2,.c (.one (.v (.int .i64 c)))),(4,.c (.one (.ptr 2 0)))] [⟨.bx [.obj 1],false⟩,⟨.us (.ext (.flat (.rw 178 [false,false,false,false] Y))),false⟩,⟨.blk [.v (.int .i64 a),.v (.int .i64 b)],true⟩] (.leaf (.exit 0) [] [⟨.bx [.obj 1],false⟩,⟨.us (.ext (.flat (.rw 178 [false,false,false,false] Y))),false⟩,⟨.blk [.v (.int .i64 a),.v (.int .i64 b)],true⟩])))] Try.f112 [.one (.ptr 0 0),.agg [.v (.int .i64 a),.v (.int .i64 b)],.one (.v (.int .i64 c))] (roM [⟨.bx [.obj 1],true⟩,⟨.us (.ext (.flat (.rw 178 [false,false,false,false] Y))),true⟩])).al []) (fun u=>u=.int .i64 (-1))=some qs∧∀ q∈qs,q:=
 ⟨[Value.int IntKind.i64 (Int.negSucc 0)=Value.int IntKind.i64 (Int.negSucc 0),Value.int IntKind.i64 c=Value.int IntKind.i64 c,(Th.ext (Dk.flat (FL.rw 178 [false,false,false,false] Y)):Td)=Th.ext (Dk.flat (FL.rw 178 [false,false,false,false] Y)),Value.int IntKind.i64 a=Value.int IntKind.i64 a,Value.int IntKind.i64 b=Value.int IntKind.i64 b,Value.int IntKind.i64 (Int.ofNat 0)=Value.int IntKind.i64 (Int.ofNat ((0:Nat)+(0:Nat)))],by kernel_rfl,(by refine mcons ?_ (mcons ?_ (mcons ?_ (mcons ?_ (mcons ?_ (mcons ?_ mnil)))))<;>first|rfl|trivial)⟩
theorem rat21R_w0 (Y:List Rw) (a b c:Int) (e:Int) :∃ qs,wayV ((runFn (⟨Try.prog,[],[E_of Try.prog 57],dkHo,Id'.one,60⟩:Sy Td) [(2,(lpG Id' 40 (hdC (loopsC (bodyOf Try.f112)) 0) 3 [(7,.c (.one (.v (.int .i64 ((0+0:Nat):Int)))))] [(0,.c (.one (.ptr 0 0))),(2,.c (.one (.v (.int .i64 c)))),(4,.c (.one (.ptr 2 0)))] [⟨.bx [.obj 1],false⟩,⟨.us (.ext (.flat (.rw 178 [false,false,false,false] Y))),false⟩,⟨.blk [.v (.int .i64 a),.v (.int .i64 b)],true⟩] (.leaf .ret [(6,.c (.one (.v (.int .i64 e))))] [⟨.bx [.obj 1],false⟩,⟨.us (.ext (.flat (.rw 178 [false,false,false,false] Y))),false⟩,⟨.blk [.v (.int .i64 a),.v (.int .i64 b)],true⟩])))] Try.f112 [.one (.ptr 0 0),.agg [.v (.int .i64 a),.v (.int .i64 b)],.one (.v (.int .i64 c))] (roM [⟨.bx [.obj 1],true⟩,⟨.us (.ext (.flat (.rw 178 [false,false,false,false] Y))),true⟩])).al []) (fun u=>u=.int .i64 e)=some qs∧∀ q∈qs,q:=
 ⟨[Value.int IntKind.i64 e=Value.int IntKind.i64 e,Value.int IntKind.i64 c=Value.int IntKind.i64 c,(Th.ext (Dk.flat (FL.rw 178 [false,false,false,false] Y)):Td)=Th.ext (Dk.flat (FL.rw 178 [false,false,false,false] Y)),Value.int IntKind.i64 a=Value.int IntKind.i64 a,Value.int IntKind.i64 b=Value.int IntKind.i64 b,Value.int IntKind.i64 (Int.ofNat 0)=Value.int IntKind.i64 (Int.ofNat ((0:Nat)+(0:Nat)))],by kernel_rfl,(by refine mcons ?_ (mcons ?_ (mcons ?_ (mcons ?_ (mcons ?_ (mcons ?_ mnil)))))<;>first|rfl|trivial)⟩
def C_rat21:CtrV Td:=fun us sub=>match us,sub with
 |[.one (.ptr 0 0),.agg [.v (.int .i64 a),.v (.int .i64 b)],.one (.v (.int .i64 c))],[⟨.bx [.obj 1],false⟩,⟨.us (.ext (.flat (.rw 178 [false,false,false,false] Y))),false⟩]=>some ([Y.length≤100000],.int .i64 (atE Y a b c))
 |_,_=>none
theorem C_rat21_ok:CtrVOk Try.prog Id' 112 C_rat21:=by
 intro us sub ps x h hp w e vs hM ha
 unfold C_rat21 at h
 split at h
 ·rename_i a b c Y
  simp only [Option.some.injEq,Prod.mk.injEq] at h
  obtain ⟨rfl,rfl⟩:=h
  have hL:Y.length≤100000:=hp _ (List.mem_cons_self ..)
  rcases fst_cases Y.length (atP Y a b c) with ⟨hv,hall⟩|⟨h1,h2,h3,h4⟩
  ·unfold atE
   rw [hv]
   exact ctrv_way (I:=Id') (fun (W0:World) (G:Nat→Prop)=>SyOk.mk2 Try.mixed dkHo_ok (FnsR.nil) (E_of_ok (by kernel_rfl) (EqsOk.nil))) rfl Try.func112 (by kernel_rfl) (fun W0 G=>LpsOk.cons (by kernel_rfl) (rat21_lpA Y a b c hL hall _ rfl) (LpsOk.nil _)) (cs:=[]) (by kernel_rfl) (rat21A_w0 Y a b c ) w e vs hM ha
  ·exact ctrv_way (I:=Id') (fun (W0:World) (G:Nat→Prop)=>SyOk.mk2 Try.mixed dkHo_ok (FnsR.nil) (E_of_ok (by kernel_rfl) (EqsOk.nil))) rfl Try.func112 (by kernel_rfl) (fun W0 G=>LpsOk.cons (by kernel_rfl) (rat21_lpR Y a b c _ hL ⟨h1,h2⟩ h3 h4 _ rfl) (LpsOk.nil _)) (cs:=[]) (by kernel_rfl) (rat21R_w0 Y a b c _ ) w e vs hM ha
 ·cases h
theorem R_rat21:RowOk Try.prog Id' hardD 112 (ctrV C_rat21 hardD):=ctrV_ok Try.call112 C_rat21_ok
def rmE (Y:List Rw) (a b c:Int):Int:=bif decide (atE Y a b c<0) then 0 else (Y.getD (atE Y a b c).toNat Rw.zero).is.getD 3 0
theorem atE_in {Y:List Rw} {a b c:Int} (hL:Y.length≤100000) (h:decide (atE Y a b c<0)=false):0≤atE Y a b c∧(atE Y a b c).toNat<Y.length:=by
 have h0:=of_decide_eq_false h
 rcases fst_cases Y.length (atP Y a b c) with ⟨hv,_⟩|⟨h1,h2,_⟩
 ·unfold atE at h0;rw [hv] at h0;omega
 ·exact ⟨h1,h2⟩
theorem rmd_w0 (Y:List Rw) (a b c:Int) (h0:Y.length≤100000) (h1:decide (atE Y a b c<0)=true):∃ qs,wayV ((runFn (⟨Try.prog,[(112,ctrV C_rat21 hardD)],[],dkHo,Id'.one,60⟩:Sy Td) [] Try.f113 [.one (.ptr 0 0),.agg [.v (.int .i64 a),.v (.int .i64 b)],.one (.v (.int .i64 c))] (roM [⟨.bx [.obj 1],true⟩,⟨.us (.ext (.flat (.rw 178 [false,false,false,false] Y))),true⟩])).al [true]) (fun u=>u=.int .i64 (rmE Y a b c))=some qs∧∀ q∈qs,q:=
 ⟨[Value.int IntKind.i64 (Int.ofNat 0)=Value.int IntKind.i64 (rmE Y a b c),Y.length≤(100000:Nat),decide (atE Y a b c<(0:Int))=true],by kernel_rfl,(by refine mcons ?_ (mcons ?_ (mcons ?_ mnil))<;>first|rfl|exact h0|exact h1|trivial|(rw [rmE,h1];rfl))⟩
theorem rmd_w1 (Y:List Rw) (a b c:Int) (h0:Y.length≤100000) (h1:decide (atE Y a b c<0)=false) (h2:0≤atE Y a b c∧(atE Y a b c).toNat<Y.length):∃ qs,wayV ((runFn (⟨Try.prog,[(112,ctrV C_rat21 hardD)],[],dkHo,Id'.one,60⟩:Sy Td) [] Try.f113 [.one (.ptr 0 0),.agg [.v (.int .i64 a),.v (.int .i64 b)],.one (.v (.int .i64 c))] (roM [⟨.bx [.obj 1],true⟩,⟨.us (.ext (.flat (.rw 178 [false,false,false,false] Y))),true⟩])).al [false]) (fun u=>u=.int .i64 (rmE Y a b c))=some qs∧∀ q∈qs,q:=
 ⟨[Value.int IntKind.i64 ((Y.getD (atE Y a b c).toNat Rw.zero).is.getD ((0:Nat)+(1:Nat)+(1:Nat)+(1:Nat)) (0:Int))=Value.int IntKind.i64 (rmE Y a b c),Y.length≤(100000:Nat),decide (atE Y a b c<(0:Int))=false,(0:Int)≤atE Y a b c∧(atE Y a b c).toNat<(FL.rw 178 [false,false,false,false] Y).n],by kernel_rfl,(by refine mcons ?_ (mcons ?_ (mcons ?_ (mcons ?_ mnil)))<;>first|rfl|exact h0|exact h1|exact h2|trivial|(rw [rmE,h1];rfl))⟩
def C_rmd:CtrV Td:=fun us sub=>match us,sub with
 |[.one (.ptr 0 0),.agg [.v (.int .i64 a),.v (.int .i64 b)],.one (.v (.int .i64 c))],[⟨.bx [.obj 1],false⟩,⟨.us (.ext (.flat (.rw 178 [false,false,false,false] Y))),false⟩]=>some ([Y.length≤100000],.int .i64 (rmE Y a b c))
 |_,_=>none
theorem C_rmd_ok:CtrVOk Try.prog Id' 113 C_rmd:=by
 intro us sub ps x h hp w e vs hM ha
 unfold C_rmd at h
 split at h
 ·rename_i a b c Y
  simp only [Option.some.injEq,Prod.mk.injEq] at h
  obtain ⟨rfl,rfl⟩:=h
  have hL:Y.length≤100000:=hp _ (List.mem_cons_self ..)
  cases h1:decide (atE Y a b c<0) with
  |true=>exact ctrv_way (I:=Id') (fun (W0:World) (G:Nat→Prop)=>SyOk.mk2 Try.mixed dkHo_ok (FnsR.cons (R_rat21) (FnsR.nil)) EqsOk.nil) rfl Try.func113 (by kernel_rfl) (fun W0 G=>LpsOk.nil _) (cs:=[true]) (by kernel_rfl) (rmd_w0 Y a b c hL h1) w e vs hM ha
  |false=>exact ctrv_way (I:=Id') (fun (W0:World) (G:Nat→Prop)=>SyOk.mk2 Try.mixed dkHo_ok (FnsR.cons (R_rat21) (FnsR.nil)) EqsOk.nil) rfl Try.func113 (by kernel_rfl) (fun W0 G=>LpsOk.nil _) (cs:=[false]) (by kernel_rfl) (rmd_w1 Y a b c hL h1 (atE_in hL h1)) w e vs hM ha
 ·cases h
theorem R_rmd:RowOk Try.prog Id' hardD 113 (ctrV C_rmd hardD):=ctrV_ok Try.call113 C_rmd_ok
def ot1S (Y:List Rw) (a b cl md:Int):Nat→List Int
 |0=>[]
 |k+1=>bif (k:Int) != cl&&decide (rmE Y a b (k:Int)>0)&&(md==2||rmE Y a b (k:Int)==2) then ot1S Y a b cl md k++[(k:Int)] else ot1S Y a b cl md k
theorem ot1S_len (Y:List Rw) (a b cl md:Int):∀ k,(ot1S Y a b cl md k).length≤k
 |0=>Nat.le_refl _
 |k+1=>by
  have:=ot1S_len Y a b cl md k
  unfold ot1S
  cases (k:Int) != cl&&decide (rmE Y a b (k:Int)>0)&&(md==2||rmE Y a b (k:Int)==2) with
  |true=>simp only [cond_true,List.length_append,List.length_cons,List.length_nil];omega
  |false=>simp only [cond_false];omega
theorem ot1S_yes (Y:List Rw) (a b cl md:Int) {k:Nat} (h:((k:Int) != cl&&decide (rmE Y a b (k:Int)>0)&&(md==2||rmE Y a b (k:Int)==2))=true):ot1S Y a b cl md (k+1)=ot1S Y a b cl md k++[(k:Int)]:=by rw [ot1S,h];rfl
theorem ot1S_no (Y:List Rw) (a b cl md:Int) {k:Nat} (h:((k:Int) != cl&&decide (rmE Y a b (k:Int)>0)&&(md==2||rmE Y a b (k:Int)==2))=false):ot1S Y a b cl md (k+1)=ot1S Y a b cl md k:=by rw [ot1S,h];rfl
theorem ot1_n1 (Y:List Rw) (a b cl md:Int) (Xs Ys:List Int) (k:Nat) (f:Nat→Value) (h0:(decide ((k:Int)<8))=true) (h1:IntKind.i64.wrap ((k:Int)+1)=((k+1:Nat):Int)) (h2:k<8) (h3:((k:Int) != cl&&decide (rmE Y a b (k:Int)>0)&&(md==2||rmE Y a b (k:Int)==2))=true) (h4:Xs++[(k:Int)]=Ys) (h5:Xs.length≤100000) (h6:Y.length≤100000):∃ qs,alN Id' 3 [(9,.c (.one (.obj 3))),(10,.c (.one (.v (.int .i64 ((k+1:Nat):Int)))))] [⟨.bx [.obj 1],true⟩,⟨.us (.ext (.flat (.rw 178 [false,false,false,false] Y))),true⟩,⟨.blk [.v (.int .i64 a),.v (.int .i64 b)],true⟩,⟨.us (.ins Ys),true⟩] ((symC (⟨Try.prog,[(113,ctrV C_rmd hardD)],[],dkHo,Id'.one,60⟩:Sy Td) [] 40 (hdC (loopsC (bodyOf Try.f111)) 0) ⟨[(9,.c (.one (.obj 3))),(10,.c (.one (.v (.int .i64 (k:Int)))))]++anyB' (writesC (hdC (loopsC (bodyOf Try.f111)) 0)) ([(0,.c (.one (.ptr 0 0))),(2,.c (.one (.v (.int .i64 cl)))),(3,.c (.one (.v (.int .i64 md)))),(5,.c (.one (.ptr 2 0)))]++tabV f 40),[⟨.bx [.obj 1],true⟩,⟨.us (.ext (.flat (.rw 178 [false,false,false,false] Y))),true⟩,⟨.blk [.v (.int .i64 a),.v (.int .i64 b)],true⟩,⟨.us (.ins Xs),true⟩],0⟩).al [true,true])=some qs∧∀ q∈qs,q:=
 ⟨[decide ((↑k:Int)<(8:Int))=true,Y.length≤(100000:Nat),((↑k:Int) != cl&&decide (rmE Y a b (↑k:Int)>(0:Int))&&(md==(2:Int)||rmE Y a b (↑k:Int)==(2:Int)))=true,Xs.length+[(↑k:Int)].length≤(1000000:Nat),(Th.ext (Dk.flat (FL.rw 178 [false,false,false,false] Y)):Td)=Th.ext (Dk.flat (FL.rw 178 [false,false,false,false] Y)),Value.int IntKind.i64 a=Value.int IntKind.i64 a,Value.int IntKind.i64 b=Value.int IntKind.i64 b,(Th.ins (Xs++[(k:Int)]):Td)=Th.ins Ys,Value.int IntKind.i64 (IntKind.i64.wrap ((↑k:Int)+(1:Int)))=Value.int IntKind.i64 (↑(k+(1:Nat)):Int)],by kernel_rfl,(by refine mcons ?_ (mcons ?_ (mcons ?_ (mcons ?_ (mcons ?_ (mcons ?_ (mcons ?_ (mcons ?_ (mcons ?_ mnil))))))))<;>first|rfl|exact h0|exact h1|exact h2|exact h3|exact h4|exact h5|exact h6|trivial|(exact congrArg (fun x=>(Th.ins x:Td)) h4)|(exact congrArg (Value.int .i64) h1)|(show Xs.length+1≤1000000;omega)|(exact congrArg (fun x=>(Th.ins x:Td)) h1))⟩
theorem ot1_n2 (Y:List Rw) (a b cl md:Int) (Xs Ys:List Int) (k:Nat) (f:Nat→Value) (h0:(decide ((k:Int)<8))=true) (h1:IntKind.i64.wrap ((k:Int)+1)=((k+1:Nat):Int)) (h2:k<8) (h3:((k:Int) != cl&&decide (rmE Y a b (k:Int)>0)&&(md==2||rmE Y a b (k:Int)==2))=false) (h4:Xs=Ys) (h5:Y.length≤100000):∃ qs,alN Id' 3 [(9,.c (.one (.obj 3))),(10,.c (.one (.v (.int .i64 ((k+1:Nat):Int)))))] [⟨.bx [.obj 1],true⟩,⟨.us (.ext (.flat (.rw 178 [false,false,false,false] Y))),true⟩,⟨.blk [.v (.int .i64 a),.v (.int .i64 b)],true⟩,⟨.us (.ins Ys),true⟩] ((symC (⟨Try.prog,[(113,ctrV C_rmd hardD)],[],dkHo,Id'.one,60⟩:Sy Td) [] 40 (hdC (loopsC (bodyOf Try.f111)) 0) ⟨[(9,.c (.one (.obj 3))),(10,.c (.one (.v (.int .i64 (k:Int)))))]++anyB' (writesC (hdC (loopsC (bodyOf Try.f111)) 0)) ([(0,.c (.one (.ptr 0 0))),(2,.c (.one (.v (.int .i64 cl)))),(3,.c (.one (.v (.int .i64 md)))),(5,.c (.one (.ptr 2 0)))]++tabV f 40),[⟨.bx [.obj 1],true⟩,⟨.us (.ext (.flat (.rw 178 [false,false,false,false] Y))),true⟩,⟨.blk [.v (.int .i64 a),.v (.int .i64 b)],true⟩,⟨.us (.ins Xs),true⟩],0⟩).al [true,false])=some qs∧∀ q∈qs,q:=
 ⟨[decide ((↑k:Int)<(8:Int))=true,Y.length≤(100000:Nat),((↑k:Int) != cl&&decide (rmE Y a b (↑k:Int)>(0:Int))&&(md==(2:Int)||rmE Y a b (↑k:Int)==(2:Int)))=false,(Th.ext (Dk.flat (FL.rw 178 [false,false,false,false] Y)):Td)=Th.ext (Dk.flat (FL.rw 178 [false,false,false,false] Y)),Value.int IntKind.i64 a=Value.int IntKind.i64 a,Value.int IntKind.i64 b=Value.int IntKind.i64 b,(Th.ins Xs:Td)=Th.ins Ys,Value.int IntKind.i64 (IntKind.i64.wrap ((↑k:Int)+(1:Int)))=Value.int IntKind.i64 (↑(k+(1:Nat)):Int)],by kernel_rfl,(by refine mcons ?_ (mcons ?_ (mcons ?_ (mcons ?_ (mcons ?_ (mcons ?_ (mcons ?_ (mcons ?_ mnil)))))))<;>first|rfl|exact h0|exact h1|exact h2|exact h3|exact h4|exact h5|trivial|(exact congrArg (fun x=>(Th.ins x:Td)) h4)|(exact congrArg (Value.int .i64) h1)|(show Xs.length+1≤1000000;omega)|(exact congrArg (fun x=>(Th.ins x:Td)) h1))⟩
theorem ot1_x (Y:List Rw) (a b cl md:Int) (Xs Ys:List Int) (k:Nat) (f:Nat→Value) (h0:(decide ((k:Int)<8))=false) (h1:Xs=Ys):∃ qs,alX Id' 3 0 [(9,.c (.one (.obj 3)))] [⟨.bx [.obj 1],true⟩,⟨.us (.ext (.flat (.rw 178 [false,false,false,false] Y))),true⟩,⟨.blk [.v (.int .i64 a),.v (.int .i64 b)],true⟩,⟨.us (.ins Ys),true⟩] ((symC (⟨Try.prog,[(113,ctrV C_rmd hardD)],[],dkHo,Id'.one,60⟩:Sy Td) [] 40 (hdC (loopsC (bodyOf Try.f111)) 0) ⟨[(9,.c (.one (.obj 3))),(10,.c (.one (.v (.int .i64 (k:Int)))))]++anyB' (writesC (hdC (loopsC (bodyOf Try.f111)) 0)) ([(0,.c (.one (.ptr 0 0))),(2,.c (.one (.v (.int .i64 cl)))),(3,.c (.one (.v (.int .i64 md)))),(5,.c (.one (.ptr 2 0)))]++tabV f 40),[⟨.bx [.obj 1],true⟩,⟨.us (.ext (.flat (.rw 178 [false,false,false,false] Y))),true⟩,⟨.blk [.v (.int .i64 a),.v (.int .i64 b)],true⟩,⟨.us (.ins Xs),true⟩],0⟩).al [false])=some qs∧∀ q∈qs,q:=
 ⟨[decide ((↑k:Int)<(8:Int))=false,(Th.ext (Dk.flat (FL.rw 178 [false,false,false,false] Y)):Td)=Th.ext (Dk.flat (FL.rw 178 [false,false,false,false] Y)),Value.int IntKind.i64 a=Value.int IntKind.i64 a,Value.int IntKind.i64 b=Value.int IntKind.i64 b,(Th.ins Xs:Td)=Th.ins Ys],by kernel_rfl,(by refine mcons ?_ (mcons ?_ (mcons ?_ (mcons ?_ (mcons ?_ mnil))))<;>first|rfl|exact h0|exact h1|trivial|(exact congrArg (fun x=>(Th.ins x:Td)) h4)|(exact congrArg (Value.int .i64) h1)|(show Xs.length+1≤1000000;omega)|(exact congrArg (fun x=>(Th.ins x:Td)) h1))⟩
theorem ot1_lp (Y:List Rw) (a b cl md:Int)  (x0:Y.length≤100000) {W0:World} {G:Nat→Prop} (S0:Sy Td) (hS0:S0.P=Try.prog):LoopSound S0 Id' W0 G 40 (hdC (loopsC (bodyOf Try.f111)) 0) (lpG Id' 40 (hdC (loopsC (bodyOf Try.f111)) 0) 3 [(9,.c (.one (.obj 3))),(10,.c (.one (.v (.int .i64 ((0:Nat):Int)))))] [(0,.c (.one (.ptr 0 0))),(2,.c (.one (.v (.int .i64 cl)))),(3,.c (.one (.v (.int .i64 md)))),(5,.c (.one (.ptr 2 0)))] [⟨.bx [.obj 1],true⟩,⟨.us (.ext (.flat (.rw 178 [false,false,false,false] Y))),true⟩,⟨.blk [.v (.int .i64 a),.v (.int .i64 b)],true⟩,⟨.us (.ins (ot1S Y a b cl md 0)),true⟩] (.leaf (.exit 0) [(9,.c (.one (.obj 3)))] [⟨.bx [.obj 1],true⟩,⟨.us (.ext (.flat (.rw 178 [false,false,false,false] Y))),true⟩,⟨.blk [.v (.int .i64 a),.v (.int .i64 b)],true⟩,⟨.us (.ins (ot1S Y a b cl md 8)),true⟩])):=by
 refine lp_sound (V:=fun k=>[(9,.c (.one (.obj 3))),(10,.c (.one (.v (.int .i64 (k:Int)))))]) (M:=(fun k=>[⟨.bx [.obj 1],true⟩,⟨.us (.ext (.flat (.rw 178 [false,false,false,false] Y))),true⟩,⟨.blk [.v (.int .i64 a),.v (.int .i64 b)],true⟩,⟨.us (.ins (ot1S Y a b cl md k)),true⟩]:Nat→Mem Td)) (N:=8) (Ux:=fun k x=>match x with|.exit 0=>some ([(9,.c (.one (.obj 3)))],([⟨.bx [.obj 1],true⟩,⟨.us (.ext (.flat (.rw 178 [false,false,false,false] Y))),true⟩,⟨.blk [.v (.int .i64 a),.v (.int .i64 b)],true⟩,⟨.us (.ins (ot1S Y a b cl md 8)),true⟩]:Mem Td))|_=>none) (X:=fun _ _=>True) (J:=fun k=>k≤8) (fun k=>by kernel_rfl) (Nat.zero_le _) (fun k hk hJ f=>?_) (fun K hK k x U hk hU hX=>?_)
 ·rw [hS0]
  have hXl:=ot1S_len Y a b cl md k
  cases hT:(decide ((k:Int)<8)) with
  |false=>
   have hk1:k=8:=by have:=of_decide_eq_false hT;omega
   exact rnd_xD (⟨Try.prog,[(113,ctrV C_rmd hardD)],[],dkHo,Id'.one,60⟩:Sy Td) rfl ((fun (W0:World) (G:Nat→Prop)=>SyOk.mk2 Try.mixed dkHo_ok (FnsR.cons (R_rmd) (FnsR.nil)) EqsOk.nil) W0 G) (ot1_x Y a b cl md _ _ k f hT (by rw [hk1])) rfl trivial
  |true=>
   have hk1:k<8:=by have:=of_decide_eq_true hT;omega
   have hW:IntKind.i64.wrap ((k:Int)+1)=((k+1:Nat):Int):=by rw [IntWalk.i64_in _ (by omega)];omega
   cases hE:((k:Int) != cl&&decide (rmE Y a b (k:Int)>0)&&(md==2||rmE Y a b (k:Int)==2)) with
   |true=>exact rnd_nD (⟨Try.prog,[(113,ctrV C_rmd hardD)],[],dkHo,Id'.one,60⟩:Sy Td) rfl ((fun (W0:World) (G:Nat→Prop)=>SyOk.mk2 Try.mixed dkHo_ok (FnsR.cons (R_rmd) (FnsR.nil)) EqsOk.nil) W0 G) (ot1_n1 Y a b cl md _ _ k f hT hW hk1 hE (ot1S_yes Y a b cl md hE).symm (by omega) x0) rfl rfl (by omega) (by omega)
   |false=>exact rnd_nD (⟨Try.prog,[(113,ctrV C_rmd hardD)],[],dkHo,Id'.one,60⟩:Sy Td) rfl ((fun (W0:World) (G:Nat→Prop)=>SyOk.mk2 Try.mixed dkHo_ok (FnsR.cons (R_rmd) (FnsR.nil)) EqsOk.nil) W0 G) (ot1_n2 Y a b cl md _ _ k f hT hW hk1 hE (ot1S_no Y a b cl md hE).symm x0) rfl rfl (by omega) (by omega)
 ·revert hU
  match x with
  |.exit 0=>intro hU;simp only [Option.some.injEq] at hU;subst hU;exact hK
  |.normal=>intro hU;cases hU
  |.ret=>intro hU;cases hU
  |.exit (n+1)=>intro hU;cases hU
theorem ot1_w0 (Y:List Rw) (a b cl md:Int) (h0:Y.length≤100000):∃ qs,wayO Id' ([⟨.bx [.obj 1],true⟩,⟨.us (.ext (.flat (.rw 178 [false,false,false,false] Y))),true⟩]:Mem Td).length [⟨.bx [.obj 1],true⟩,⟨.us (.ext (.flat (.rw 178 [false,false,false,false] Y))),true⟩,⟨.us (.ins (ot1S Y a b cl md 8)),true⟩] (.c (.one (.obj 2))) ((runFn (⟨Try.prog,[(113,ctrV C_rmd hardD)],[],dkHo,Id'.one,60⟩:Sy Td) [(3,(lpG Id' 40 (hdC (loopsC (bodyOf Try.f111)) 0) 3 [(9,.c (.one (.obj 3))),(10,.c (.one (.v (.int .i64 ((0:Nat):Int)))))] [(0,.c (.one (.ptr 0 0))),(2,.c (.one (.v (.int .i64 cl)))),(3,.c (.one (.v (.int .i64 md)))),(5,.c (.one (.ptr 2 0)))] [⟨.bx [.obj 1],true⟩,⟨.us (.ext (.flat (.rw 178 [false,false,false,false] Y))),true⟩,⟨.blk [.v (.int .i64 a),.v (.int .i64 b)],true⟩,⟨.us (.ins (ot1S Y a b cl md 0)),true⟩] (.leaf (.exit 0) [(9,.c (.one (.obj 3)))] [⟨.bx [.obj 1],true⟩,⟨.us (.ext (.flat (.rw 178 [false,false,false,false] Y))),true⟩,⟨.blk [.v (.int .i64 a),.v (.int .i64 b)],true⟩,⟨.us (.ins (ot1S Y a b cl md 8)),true⟩])))] Try.f111 [.one (.ptr 0 0),.agg [.v (.int .i64 a),.v (.int .i64 b)],.one (.v (.int .i64 cl)),.one (.v (.int .i64 md))] [⟨.bx [.obj 1],true⟩,⟨.us (.ext (.flat (.rw 178 [false,false,false,false] Y))),true⟩]).al [])=some qs∧∀ q∈qs,q:=
 ⟨[Value.int IntKind.i64 cl=Value.int IntKind.i64 cl,Value.int IntKind.i64 md=Value.int IntKind.i64 md,(Th.ext (Dk.flat (FL.rw 178 [false,false,false,false] Y)):Td)=Th.ext (Dk.flat (FL.rw 178 [false,false,false,false] Y)),Value.int IntKind.i64 a=Value.int IntKind.i64 a,Value.int IntKind.i64 b=Value.int IntKind.i64 b,∀ (w:World),Id'.holds (Th.ins (ot1S Y a b cl md (0:Nat))) w nilV∧∀ (j:Nat),¬Id'.foot (Th.ins (ot1S Y a b cl md (0:Nat))) w nilV j,Value.int IntKind.i64 (Int.ofNat 0)=Value.int IntKind.i64 (Int.ofNat (0:Nat)),(Th.ext (Dk.flat (FL.rw 178 [false,false,false,false] Y)):Td)=Th.ext (Dk.flat (FL.rw 178 [false,false,false,false] Y)),(Th.ins (ot1S Y a b cl md (8:Nat)):Td)=Th.ins (ot1S Y a b cl md (8:Nat))],by kernel_rfl,(by refine mcons ?_ (mcons ?_ (mcons ?_ (mcons ?_ (mcons ?_ (mcons ?_ (mcons ?_ (mcons ?_ (mcons ?_ mnil))))))))<;>first|rfl|exact h0|trivial|(exact nil_ins dkI))⟩
def C_ot1:Ctr Td:=fun us sub=>match us,sub with
 |[.one (.ptr 0 0),.agg [.v (.int .i64 a),.v (.int .i64 b)],.one (.v (.int .i64 cl)),.one (.v (.int .i64 md))],[⟨.bx [.obj 1],true⟩,⟨.us (.ext (.flat (.rw 178 [false,false,false,false] Y))),true⟩]=>some ([Y.length≤100000],.c (.one (.obj 2)),[⟨.bx [.obj 1],true⟩,⟨.us (.ext (.flat (.rw 178 [false,false,false,false] Y))),true⟩,⟨.us (.ins (ot1S Y a b cl md 8)),true⟩])
 |_,_=>none
theorem C_ot1_ok:CtrOk Try.prog Id' 111 C_ot1:=by
 intro us sub ps x sm h hp w e vs hM ha
 unfold C_ot1 at h
 split at h
 ·rename_i a b cl md Y
  simp only [Option.some.injEq,Prod.mk.injEq] at h
  obtain ⟨rfl,rfl,rfl⟩:=h
  have h0:=hp _ ((List.mem_cons_self ..))
  exact ctr_way (I:=Id') (fun (W0:World) (G:Nat→Prop)=>SyOk.mk2 Try.mixed dkHo_ok (FnsR.cons (R_rmd) (FnsR.nil)) EqsOk.nil) rfl Try.func111 (by kernel_rfl) (fun W0 G=>LpsOk.cons (by kernel_rfl) (ot1_lp Y a b cl md h0 _ rfl) (LpsOk.nil _)) (cs:=[]) (by kernel_rfl) (ot1_w0 Y a b cl md h0) w e vs hM ha
 ·cases h
theorem R_ot1:RowOk Try.prog Id' hardD 111 (ctrF Id' C_ot1 hardD):=ctrF_ok Try.call111 C_ot1_ok
def rgE (Y:List Rw) (a b c md:Int):Int:=bif (decide (c<0)||decide (c>7)||decide (md<1)||decide (md>2)) then 2 else bif decide (((ot1S Y a b c md 8).length:Int)>0) then 21 else 0
def rgT (Y:List Rw) (a b c md:Int):List Rw:=bif (decide (c<0)||decide (c>7)||decide (md<1)||decide (md>2)) then Y else bif decide (((ot1S Y a b c md 8).length:Int)>0) then Y else bif decide (atE Y a b c<0) then Y++[⟨[a,b,c,md],[]⟩] else bif decide ((Y.getD (atE Y a b c).toNat Rw.zero).is.getD 3 0<md) then Y.set (atE Y a b c).toNat ⟨[(Y.getD (atE Y a b c).toNat Rw.zero).is.getD 0 0,(Y.getD (atE Y a b c).toNat Rw.zero).is.getD 1 0,(Y.getD (atE Y a b c).toNat Rw.zero).is.getD 2 0,md],[]⟩ else Y
def rdE (Y:List Rw) (a b c:Int):Int:=bif decide (atE Y a b c<0) then 11 else 0
def rdT (Y:List Rw) (a b c:Int):List Rw:=bif decide (atE Y a b c<0) then Y else Y.take (atE Y a b c).toNat++Y.drop ((atE Y a b c).toNat+1)
theorem tkr_w {Y:List Rw} {i:Int} (h:0≤i∧i.toNat<Y.length) (hL:Y.length≤10000):IntKind.i64.wrap (i+1)=i+1:=IntWalk.i64_in _ (by omega)
theorem tkr_c {Y:List Rw} {i:Int} (h:0≤i∧i.toNat<Y.length) (hL:Y.length≤10000):(List.take (i.toNat - Int.toNat (0:Int)) (List.drop (Int.toNat (0:Int)) Y)).length+(List.take ((Y.length:Int).toNat - (IntKind.i64.wrap (i+(1:Int))).toNat) (List.drop (IntKind.i64.wrap (i+(1:Int))).toNat Y)).length≤(100000:Nat):=by
 rw [tkr_w h hL,List.length_take,List.length_drop,List.length_take,List.length_drop];omega
theorem tkr_a {Y:List Rw} {i:Int} (hL:Y.length≤10000):(List.take (i.toNat - Int.toNat (0:Int)) (List.drop (Int.toNat (0:Int)) Y)).length≤(100000:Nat):=by
 rw [List.length_take,List.length_drop];omega
theorem tkr_b {Y:List Rw} {i:Int} (h:0≤i∧i.toNat<Y.length):(0:Int)≤(0:Int)∧(0:Int)≤i∧i≤(Y.length:Int):=by omega
theorem tkr_d {Y:List Rw} {i:Int} (h:0≤i∧i.toNat<Y.length) (hL:Y.length≤10000):(0:Int)≤IntKind.i64.wrap (i+(1:Int))∧IntKind.i64.wrap (i+(1:Int))≤(Y.length:Int)∧(Y.length:Int)≤(Y.length:Int):=by
 rw [tkr_w h hL];omega
theorem tkr_e {Y:List Rw} {i:Int} (h:0≤i∧i.toNat<Y.length) (hL:Y.length≤10000):List.take (i.toNat - Int.toNat (0:Int)) (List.drop (Int.toNat (0:Int)) Y)++List.take ((Y.length:Int).toNat - (IntKind.i64.wrap (i+(1:Int))).toNat) (List.drop (IntKind.i64.wrap (i+(1:Int))).toNat Y)=Y.take i.toNat++Y.drop (i.toNat+1):=by
 rw [tkr_w h hL]
 have e1:(i+1).toNat=i.toNat+1:=by omega
 have e2:i.toNat - Int.toNat (0:Int)=i.toNat:=by simp
 rw [e1,e2]
 have e3:List.take ((Y.length:Int).toNat - (i.toNat+1)) (List.drop (i.toNat+1) Y)=Y.drop (i.toNat+1):=List.take_of_length_le (by rw [List.length_drop];omega)
 rw [e3];rfl
theorem rgr_w0 (Y:List Rw) (a b c md:Int) (h0:(decide (c<0)||decide (c>7)||decide (md<1)||decide (md>2))=true):∃ qs,wayO Id' ([⟨.bx [.obj 1],true⟩,⟨.us (.ext (.flat (.rw 178 [false,false,false,false] Y))),true⟩]:Mem Td).length [⟨.bx [.obj 2],true⟩,⟨.dead,true⟩,⟨.us (.ext (.flat (.rw 178 [false,false,false,false] (rgT Y a b c md)))),true⟩] (.c (.one (.v (.int .i64 (rgE Y a b c md))))) ((runFn (⟨Try.prog,[(111,ctrF Id' C_ot1 hardD),(112,ctrV C_rat21 hardD)],[],dkHo,Id'.one,60⟩:Sy Td) [] Try.f52 [.one (.ptr 0 0),.agg [.v (.int .i64 a),.v (.int .i64 b)],.one (.v (.int .i64 c)),.one (.v (.int .i64 md))] [⟨.bx [.obj 1],true⟩,⟨.us (.ext (.flat (.rw 178 [false,false,false,false] Y))),true⟩]).al [true])=some qs∧∀ q∈qs,q:=
 ⟨[(decide (c<(0:Int))||decide (c>(7:Int))||decide (md<(1:Int))||decide (md>(2:Int)))=true,(Th.ext (Dk.flat (FL.rw 178 [false,false,false,false] Y)):Td)=Th.ext (Dk.flat (FL.rw 178 [false,false,false,false] (rgT Y a b c md))),Value.int IntKind.i64 (Int.ofNat 2)=Value.int IntKind.i64 (rgE Y a b c md)],by kernel_rfl,(by refine mcons ?_ (mcons ?_ (mcons ?_ mnil))<;>first|rfl|exact h0|trivial|(exact congrArg (fun x=>(Th.ext (Dk.flat (FL.rw 178 [false,false,false,false] x)):Td)) (show _=rgT Y a b c md by rw [rgT,h0,h1,h2,h3];rfl))|(exact congrArg (fun x=>(Th.ext (Dk.flat (FL.rw 178 [false,false,false,false] x)):Td)) (show _=rgT Y a b c md by rw [rgT,h0,h1,h2];rfl))|(exact congrArg (fun x=>(Th.ext (Dk.flat (FL.rw 178 [false,false,false,false] x)):Td)) (show _=rgT Y a b c md by rw [rgT,h0,h1];rfl))|(exact congrArg (fun x=>(Th.ext (Dk.flat (FL.rw 178 [false,false,false,false] x)):Td)) (show _=rgT Y a b c md by rw [rgT,h0];rfl))|(exact congrArg (Value.int .i64) (show _=rgE Y a b c md by rw [rgE,h0,h1];rfl))|(exact congrArg (Value.int .i64) (show _=rgE Y a b c md by rw [rgE,h0];rfl))|(exact Nat.le_trans h2 (by decide))|(exact Nat.le_trans h3 (by decide))|(exact Nat.le_trans h4 (by decide))|(exact Nat.succ_le_succ (Nat.le_trans h3 (by decide)))|(show Y.length+1≤100000;omega))⟩
theorem rgr_w1 (Y:List Rw) (a b c md:Int) (h0:(decide (c<0)||decide (c>7)||decide (md<1)||decide (md>2))=false) (h1:decide (((ot1S Y a b c md 8).length:Int)>0)=true) (h2:Y.length≤10000):∃ qs,wayO Id' ([⟨.bx [.obj 1],true⟩,⟨.us (.ext (.flat (.rw 178 [false,false,false,false] Y))),true⟩]:Mem Td).length [⟨.bx [.obj 2],true⟩,⟨.dead,true⟩,⟨.us (.ext (.flat (.rw 178 [false,false,false,false] (rgT Y a b c md)))),true⟩] (.c (.one (.v (.int .i64 (rgE Y a b c md))))) ((runFn (⟨Try.prog,[(111,ctrF Id' C_ot1 hardD),(112,ctrV C_rat21 hardD)],[],dkHo,Id'.one,60⟩:Sy Td) [] Try.f52 [.one (.ptr 0 0),.agg [.v (.int .i64 a),.v (.int .i64 b)],.one (.v (.int .i64 c)),.one (.v (.int .i64 md))] [⟨.bx [.obj 1],true⟩,⟨.us (.ext (.flat (.rw 178 [false,false,false,false] Y))),true⟩]).al [false,true])=some qs∧∀ q∈qs,q:=
 ⟨[(decide (c<(0:Int))||decide (c>(7:Int))||decide (md<(1:Int))||decide (md>(2:Int)))=false,Y.length≤(100000:Nat),decide ((↑(ot1S Y a b c md (8:Nat)).length:Int)>(0:Int))=true,(Th.ext (Dk.flat (FL.rw 178 [false,false,false,false] Y)):Td)=Th.ext (Dk.flat (FL.rw 178 [false,false,false,false] (rgT Y a b c md))),Value.int IntKind.i64 (Int.ofNat 21)=Value.int IntKind.i64 (rgE Y a b c md)],by kernel_rfl,(by refine mcons ?_ (mcons ?_ (mcons ?_ (mcons ?_ (mcons ?_ mnil))))<;>first|rfl|exact h0|exact h1|exact h2|trivial|(exact congrArg (fun x=>(Th.ext (Dk.flat (FL.rw 178 [false,false,false,false] x)):Td)) (show _=rgT Y a b c md by rw [rgT,h0,h1,h2,h3];rfl))|(exact congrArg (fun x=>(Th.ext (Dk.flat (FL.rw 178 [false,false,false,false] x)):Td)) (show _=rgT Y a b c md by rw [rgT,h0,h1,h2];rfl))|(exact congrArg (fun x=>(Th.ext (Dk.flat (FL.rw 178 [false,false,false,false] x)):Td)) (show _=rgT Y a b c md by rw [rgT,h0,h1];rfl))|(exact congrArg (fun x=>(Th.ext (Dk.flat (FL.rw 178 [false,false,false,false] x)):Td)) (show _=rgT Y a b c md by rw [rgT,h0];rfl))|(exact congrArg (Value.int .i64) (show _=rgE Y a b c md by rw [rgE,h0,h1];rfl))|(exact congrArg (Value.int .i64) (show _=rgE Y a b c md by rw [rgE,h0];rfl))|(exact Nat.le_trans h2 (by decide))|(exact Nat.le_trans h3 (by decide))|(exact Nat.le_trans h4 (by decide))|(exact Nat.succ_le_succ (Nat.le_trans h3 (by decide)))|(show Y.length+1≤100000;omega))⟩
theorem rgr_w2 (Y:List Rw) (a b c md:Int) (h0:(decide (c<0)||decide (c>7)||decide (md<1)||decide (md>2))=false) (h1:decide (((ot1S Y a b c md 8).length:Int)>0)=false) (h2:decide (atE Y a b c<0)=true) (h3:Y.length≤10000):∃ qs,wayO Id' ([⟨.bx [.obj 1],true⟩,⟨.us (.ext (.flat (.rw 178 [false,false,false,false] Y))),true⟩]:Mem Td).length [⟨.bx [.obj 2],true⟩,⟨.dead,true⟩,⟨.us (.ext (.flat (.rw 178 [false,false,false,false] (rgT Y a b c md)))),true⟩] (.c (.one (.v (.int .i64 (rgE Y a b c md))))) ((runFn (⟨Try.prog,[(111,ctrF Id' C_ot1 hardD),(112,ctrV C_rat21 hardD)],[],dkHo,Id'.one,60⟩:Sy Td) [] Try.f52 [.one (.ptr 0 0),.agg [.v (.int .i64 a),.v (.int .i64 b)],.one (.v (.int .i64 c)),.one (.v (.int .i64 md))] [⟨.bx [.obj 1],true⟩,⟨.us (.ext (.flat (.rw 178 [false,false,false,false] Y))),true⟩]).al [false,false,true])=some qs∧∀ q∈qs,q:=
 ⟨[(decide (c<(0:Int))||decide (c>(7:Int))||decide (md<(1:Int))||decide (md>(2:Int)))=false,Y.length≤(100000:Nat),decide ((↑(ot1S Y a b c md (8:Nat)).length:Int)>(0:Int))=false,Y.length≤(100000:Nat),decide (atE Y a b c<(0:Int))=true,Y.length+[Rw.mk [a,b,c,md] []].length≤(100000:Nat),(Th.ext (Dk.flat (FL.rw 178 [false,false,false,false] (Y++[⟨[a,b,c,md],[]⟩]))):Td)=Th.ext (Dk.flat (FL.rw 178 [false,false,false,false] (rgT Y a b c md))),Value.int IntKind.i64 (Int.ofNat 0)=Value.int IntKind.i64 (rgE Y a b c md)],by kernel_rfl,(by refine mcons ?_ (mcons ?_ (mcons ?_ (mcons ?_ (mcons ?_ (mcons ?_ (mcons ?_ (mcons ?_ mnil)))))))<;>first|rfl|exact h0|exact h1|exact h2|exact h3|trivial|(exact congrArg (fun x=>(Th.ext (Dk.flat (FL.rw 178 [false,false,false,false] x)):Td)) (show _=rgT Y a b c md by rw [rgT,h0,h1,h2,h3];rfl))|(exact congrArg (fun x=>(Th.ext (Dk.flat (FL.rw 178 [false,false,false,false] x)):Td)) (show _=rgT Y a b c md by rw [rgT,h0,h1,h2];rfl))|(exact congrArg (fun x=>(Th.ext (Dk.flat (FL.rw 178 [false,false,false,false] x)):Td)) (show _=rgT Y a b c md by rw [rgT,h0,h1];rfl))|(exact congrArg (fun x=>(Th.ext (Dk.flat (FL.rw 178 [false,false,false,false] x)):Td)) (show _=rgT Y a b c md by rw [rgT,h0];rfl))|(exact congrArg (Value.int .i64) (show _=rgE Y a b c md by rw [rgE,h0,h1];rfl))|(exact congrArg (Value.int .i64) (show _=rgE Y a b c md by rw [rgE,h0];rfl))|(exact Nat.le_trans h2 (by decide))|(exact Nat.le_trans h3 (by decide))|(exact Nat.le_trans h4 (by decide))|(exact Nat.succ_le_succ (Nat.le_trans h3 (by decide)))|(show Y.length+1≤100000;omega))⟩
theorem rgr_w3 (Y:List Rw) (a b c md:Int) (h0:(decide (c<0)||decide (c>7)||decide (md<1)||decide (md>2))=false) (h1:decide (((ot1S Y a b c md 8).length:Int)>0)=false) (h2:decide (atE Y a b c<0)=false) (h3:decide ((Y.getD (atE Y a b c).toNat Rw.zero).is.getD 3 0<md)=true) (h4:Y.length≤10000) (h5:0≤atE Y a b c∧(atE Y a b c).toNat<Y.length):∃ qs,wayO Id' ([⟨.bx [.obj 1],true⟩,⟨.us (.ext (.flat (.rw 178 [false,false,false,false] Y))),true⟩]:Mem Td).length [⟨.bx [.obj 2],true⟩,⟨.dead,true⟩,⟨.us (.ext (.flat (.rw 178 [false,false,false,false] (rgT Y a b c md)))),true⟩] (.c (.one (.v (.int .i64 (rgE Y a b c md))))) ((runFn (⟨Try.prog,[(111,ctrF Id' C_ot1 hardD),(112,ctrV C_rat21 hardD)],[],dkHo,Id'.one,60⟩:Sy Td) [] Try.f52 [.one (.ptr 0 0),.agg [.v (.int .i64 a),.v (.int .i64 b)],.one (.v (.int .i64 c)),.one (.v (.int .i64 md))] [⟨.bx [.obj 1],true⟩,⟨.us (.ext (.flat (.rw 178 [false,false,false,false] Y))),true⟩]).al [false,false,false,true])=some qs∧∀ q∈qs,q:=
 ⟨[(decide (c<(0:Int))||decide (c>(7:Int))||decide (md<(1:Int))||decide (md>(2:Int)))=false,Y.length≤(100000:Nat),decide ((↑(ot1S Y a b c md (8:Nat)).length:Int)>(0:Int))=false,Y.length≤(100000:Nat),decide (atE Y a b c<(0:Int))=false,(0:Int)≤atE Y a b c∧(atE Y a b c).toNat<(FL.rw 178 [false,false,false,false] Y).n,decide ((Y.getD (atE Y a b c).toNat Rw.zero).is.getD ((0:Nat)+(1:Nat)+(1:Nat)+(1:Nat)) (0:Int)<md)=true,(0:Int)≤atE Y a b c∧(atE Y a b c).toNat<(FL.rw 178 [false,false,false,false] Y).n,(Th.ext (Dk.flat (FL.rw 178 [false,false,false,false] (Y.set (atE Y a b c).toNat ⟨[(Y.getD (atE Y a b c).toNat Rw.zero).is.getD 0 0,(Y.getD (atE Y a b c).toNat Rw.zero).is.getD 1 0,(Y.getD (atE Y a b c).toNat Rw.zero).is.getD 2 0,md],[]⟩))):Td)=Th.ext (Dk.flat (FL.rw 178 [false,false,false,false] (rgT Y a b c md))),Value.int IntKind.i64 (Int.ofNat 0)=Value.int IntKind.i64 (rgE Y a b c md)],by kernel_rfl,(by refine mcons ?_ (mcons ?_ (mcons ?_ (mcons ?_ (mcons ?_ (mcons ?_ (mcons ?_ (mcons ?_ (mcons ?_ (mcons ?_ mnil)))))))))<;>first|rfl|exact h0|exact h1|exact h2|exact h3|exact h4|exact h5|trivial|(exact congrArg (fun x=>(Th.ext (Dk.flat (FL.rw 178 [false,false,false,false] x)):Td)) (show _=rgT Y a b c md by rw [rgT,h0,h1,h2,h3];rfl))|(exact congrArg (fun x=>(Th.ext (Dk.flat (FL.rw 178 [false,false,false,false] x)):Td)) (show _=rgT Y a b c md by rw [rgT,h0,h1,h2];rfl))|(exact congrArg (fun x=>(Th.ext (Dk.flat (FL.rw 178 [false,false,false,false] x)):Td)) (show _=rgT Y a b c md by rw [rgT,h0,h1];rfl))|(exact congrArg (fun x=>(Th.ext (Dk.flat (FL.rw 178 [false,false,false,false] x)):Td)) (show _=rgT Y a b c md by rw [rgT,h0];rfl))|(exact congrArg (Value.int .i64) (show _=rgE Y a b c md by rw [rgE,h0,h1];rfl))|(exact congrArg (Value.int .i64) (show _=rgE Y a b c md by rw [rgE,h0];rfl))|(exact Nat.le_trans h2 (by decide))|(exact Nat.le_trans h3 (by decide))|(exact Nat.le_trans h4 (by decide))|(exact Nat.succ_le_succ (Nat.le_trans h3 (by decide)))|(show Y.length+1≤100000;omega))⟩
theorem rgr_w4 (Y:List Rw) (a b c md:Int) (h0:(decide (c<0)||decide (c>7)||decide (md<1)||decide (md>2))=false) (h1:decide (((ot1S Y a b c md 8).length:Int)>0)=false) (h2:decide (atE Y a b c<0)=false) (h3:decide ((Y.getD (atE Y a b c).toNat Rw.zero).is.getD 3 0<md)=false) (h4:Y.length≤10000) (h5:0≤atE Y a b c∧(atE Y a b c).toNat<Y.length):∃ qs,wayO Id' ([⟨.bx [.obj 1],true⟩,⟨.us (.ext (.flat (.rw 178 [false,false,false,false] Y))),true⟩]:Mem Td).length [⟨.bx [.obj 2],true⟩,⟨.dead,true⟩,⟨.us (.ext (.flat (.rw 178 [false,false,false,false] (rgT Y a b c md)))),true⟩] (.c (.one (.v (.int .i64 (rgE Y a b c md))))) ((runFn (⟨Try.prog,[(111,ctrF Id' C_ot1 hardD),(112,ctrV C_rat21 hardD)],[],dkHo,Id'.one,60⟩:Sy Td) [] Try.f52 [.one (.ptr 0 0),.agg [.v (.int .i64 a),.v (.int .i64 b)],.one (.v (.int .i64 c)),.one (.v (.int .i64 md))] [⟨.bx [.obj 1],true⟩,⟨.us (.ext (.flat (.rw 178 [false,false,false,false] Y))),true⟩]).al [false,false,false,false])=some qs∧∀ q∈qs,q:=
 ⟨[(decide (c<(0:Int))||decide (c>(7:Int))||decide (md<(1:Int))||decide (md>(2:Int)))=false,Y.length≤(100000:Nat),decide ((↑(ot1S Y a b c md (8:Nat)).length:Int)>(0:Int))=false,Y.length≤(100000:Nat),decide (atE Y a b c<(0:Int))=false,(0:Int)≤atE Y a b c∧(atE Y a b c).toNat<(FL.rw 178 [false,false,false,false] Y).n,decide ((Y.getD (atE Y a b c).toNat Rw.zero).is.getD ((0:Nat)+(1:Nat)+(1:Nat)+(1:Nat)) (0:Int)<md)=false,(Th.ext (Dk.flat (FL.rw 178 [false,false,false,false] Y)):Td)=Th.ext (Dk.flat (FL.rw 178 [false,false,false,false] (rgT Y a b c md))),Value.int IntKind.i64 (Int.ofNat 0)=Value.int IntKind.i64 (rgE Y a b c md)],by kernel_rfl,(by refine mcons ?_ (mcons ?_ (mcons ?_ (mcons ?_ (mcons ?_ (mcons ?_ (mcons ?_ (mcons ?_ (mcons ?_ mnil))))))))<;>first|rfl|exact h0|exact h1|exact h2|exact h3|exact h4|exact h5|trivial|(exact congrArg (fun x=>(Th.ext (Dk.flat (FL.rw 178 [false,false,false,false] x)):Td)) (show _=rgT Y a b c md by rw [rgT,h0,h1,h2,h3];rfl))|(exact congrArg (fun x=>(Th.ext (Dk.flat (FL.rw 178 [false,false,false,false] x)):Td)) (show _=rgT Y a b c md by rw [rgT,h0,h1,h2];rfl))|(exact congrArg (fun x=>(Th.ext (Dk.flat (FL.rw 178 [false,false,false,false] x)):Td)) (show _=rgT Y a b c md by rw [rgT,h0,h1];rfl))|(exact congrArg (fun x=>(Th.ext (Dk.flat (FL.rw 178 [false,false,false,false] x)):Td)) (show _=rgT Y a b c md by rw [rgT,h0];rfl))|(exact congrArg (Value.int .i64) (show _=rgE Y a b c md by rw [rgE,h0,h1];rfl))|(exact congrArg (Value.int .i64) (show _=rgE Y a b c md by rw [rgE,h0];rfl))|(exact Nat.le_trans h2 (by decide))|(exact Nat.le_trans h3 (by decide))|(exact Nat.le_trans h4 (by decide))|(exact Nat.succ_le_succ (Nat.le_trans h3 (by decide)))|(show Y.length+1≤100000;omega))⟩
def C_rgr:Ctr Td:=fun us sub=>match us,sub with
 |[.one (.ptr 0 0),.agg [.v (.int .i64 a),.v (.int .i64 b)],.one (.v (.int .i64 c)),.one (.v (.int .i64 md))],[⟨.bx [.obj 1],true⟩,⟨.us (.ext (.flat (.rw 178 [false,false,false,false] Y))),true⟩]=>some ([Y.length≤10000],.c (.one (.v (.int .i64 (rgE Y a b c md)))),[⟨.bx [.obj 2],true⟩,⟨.dead,true⟩,⟨.us (.ext (.flat (.rw 178 [false,false,false,false] (rgT Y a b c md)))),true⟩])
 |_,_=>none
theorem C_rgr_ok:CtrOk Try.prog Id' 52 C_rgr:=by
 intro us sub ps x sm h hp w e vs hM ha
 unfold C_rgr at h
 split at h
 ·rename_i a b c md Y
  simp only [Option.some.injEq,Prod.mk.injEq] at h
  obtain ⟨rfl,rfl,rfl⟩:=h
  have hL:Y.length≤10000:=hp _ (List.mem_cons_self ..)
  cases h0:(decide (c<0)||decide (c>7)||decide (md<1)||decide (md>2)) with
  |true=>exact ctr_way (I:=Id') (fun (W0:World) (G:Nat→Prop)=>SyOk.mk2 Try.mixed dkHo_ok (FnsR.cons (R_ot1) (FnsR.cons (R_rat21) (FnsR.nil))) EqsOk.nil) rfl Try.func52 (by kernel_rfl) (fun W0 G=>LpsOk.nil _) (cs:=[true]) (by kernel_rfl) (rgr_w0 Y a b c md h0) w e vs hM ha
  |false=>
   cases h1:decide (((ot1S Y a b c md 8).length:Int)>0) with
   |true=>exact ctr_way (I:=Id') (fun (W0:World) (G:Nat→Prop)=>SyOk.mk2 Try.mixed dkHo_ok (FnsR.cons (R_ot1) (FnsR.cons (R_rat21) (FnsR.nil))) EqsOk.nil) rfl Try.func52 (by kernel_rfl) (fun W0 G=>LpsOk.nil _) (cs:=[false,true]) (by kernel_rfl) (rgr_w1 Y a b c md h0 h1 hL) w e vs hM ha
   |false=>
    cases h2:decide (atE Y a b c<0) with
    |true=>exact ctr_way (I:=Id') (fun (W0:World) (G:Nat→Prop)=>SyOk.mk2 Try.mixed dkHo_ok (FnsR.cons (R_ot1) (FnsR.cons (R_rat21) (FnsR.nil))) EqsOk.nil) rfl Try.func52 (by kernel_rfl) (fun W0 G=>LpsOk.nil _) (cs:=[false,false,true]) (by kernel_rfl) (rgr_w2 Y a b c md h0 h1 h2 hL) w e vs hM ha
    |false=>
     have hin:=atE_in (Nat.le_trans hL (by decide)) h2
     cases h3:decide ((Y.getD (atE Y a b c).toNat Rw.zero).is.getD 3 0<md) with
     |true=>exact ctr_way (I:=Id') (fun (W0:World) (G:Nat→Prop)=>SyOk.mk2 Try.mixed dkHo_ok (FnsR.cons (R_ot1) (FnsR.cons (R_rat21) (FnsR.nil))) EqsOk.nil) rfl Try.func52 (by kernel_rfl) (fun W0 G=>LpsOk.nil _) (cs:=[false,false,false,true]) (by kernel_rfl) (rgr_w3 Y a b c md h0 h1 h2 h3 hL hin) w e vs hM ha
     |false=>exact ctr_way (I:=Id') (fun (W0:World) (G:Nat→Prop)=>SyOk.mk2 Try.mixed dkHo_ok (FnsR.cons (R_ot1) (FnsR.cons (R_rat21) (FnsR.nil))) EqsOk.nil) rfl Try.func52 (by kernel_rfl) (fun W0 G=>LpsOk.nil _) (cs:=[false,false,false,false]) (by kernel_rfl) (rgr_w4 Y a b c md h0 h1 h2 h3 hL hin) w e vs hM ha
 ·cases h
theorem R_rgr:RowOk Try.prog Id' hardD 52 (ctrF Id' C_rgr hardD):=ctrF_ok Try.call52 C_rgr_ok
theorem rdr_w0 (Y:List Rw) (a b c:Int) (h0:decide (atE Y a b c<0)=true) (h1:Y.length≤10000):∃ qs,wayO Id' ([⟨.bx [.obj 1],true⟩,⟨.us (.ext (.flat (.rw 178 [false,false,false,false] Y))),true⟩]:Mem Td).length [⟨.bx [.obj 2],true⟩,⟨.dead,true⟩,⟨.us (.ext (.flat (.rw 178 [false,false,false,false] (rdT Y a b c)))),true⟩] (.c (.one (.v (.int .i64 (rdE Y a b c))))) ((runFn (⟨Try.prog,[(112,ctrV C_rat21 hardD)],[],dkHo,Id'.one,60⟩:Sy Td) [] Try.f53 [.one (.ptr 0 0),.agg [.v (.int .i64 a),.v (.int .i64 b)],.one (.v (.int .i64 c))] [⟨.bx [.obj 1],true⟩,⟨.us (.ext (.flat (.rw 178 [false,false,false,false] Y))),true⟩]).al [true])=some qs∧∀ q∈qs,q:=
 ⟨[Y.length≤(100000:Nat),decide (atE Y a b c<(0:Int))=true,(Th.ext (Dk.flat (FL.rw 178 [false,false,false,false] Y)):Td)=Th.ext (Dk.flat (FL.rw 178 [false,false,false,false] (rdT Y a b c))),Value.int IntKind.i64 (Int.ofNat 11)=Value.int IntKind.i64 (rdE Y a b c)],by kernel_rfl,(by refine mcons ?_ (mcons ?_ (mcons ?_ (mcons ?_ mnil)))<;>first|rfl|exact h0|exact h1|trivial|(exact congrArg (fun x=>(Th.ext (Dk.flat (FL.rw 178 [false,false,false,false] x)):Td)) (show _=rdT Y a b c by rw [rdT,h0];rfl))|(exact congrArg (fun x=>(Th.ext (Dk.flat (FL.rw 178 [false,false,false,false] x)):Td)) (show (List.take ((atE Y a b c).toNat - Int.toNat (0:Int)) (List.drop (Int.toNat (0:Int)) Y)++List.take ((Y.length:Int).toNat - (IntKind.i64.wrap ((atE Y a b c)+(1:Int))).toNat) (List.drop (IntKind.i64.wrap ((atE Y a b c)+(1:Int))).toNat Y))=rdT Y a b c by rw [tkr_e h2 h1,rdT,h0];rfl))|(exact congrArg (Value.int .i64) (show _=rdE Y a b c by rw [rdE,h0];rfl))|(exact Nat.le_trans h1 (by decide))|(exact tkr_a h1)|(exact tkr_b h2)|(exact tkr_c h2 h1)|(exact tkr_d h2 h1))⟩
theorem rdr_w1 (Y:List Rw) (a b c:Int) (h0:decide (atE Y a b c<0)=false) (h1:Y.length≤10000) (h2:0≤atE Y a b c∧(atE Y a b c).toNat<Y.length):∃ qs,wayO Id' ([⟨.bx [.obj 1],true⟩,⟨.us (.ext (.flat (.rw 178 [false,false,false,false] Y))),true⟩]:Mem Td).length [⟨.bx [.obj 2],true⟩,⟨.dead,true⟩,⟨.us (.ext (.flat (.rw 178 [false,false,false,false] (rdT Y a b c)))),true⟩] (.c (.one (.v (.int .i64 (rdE Y a b c))))) ((runFn (⟨Try.prog,[(112,ctrV C_rat21 hardD)],[],dkHo,Id'.one,60⟩:Sy Td) [] Try.f53 [.one (.ptr 0 0),.agg [.v (.int .i64 a),.v (.int .i64 b)],.one (.v (.int .i64 c))] [⟨.bx [.obj 1],true⟩,⟨.us (.ext (.flat (.rw 178 [false,false,false,false] Y))),true⟩]).al [false])=some qs∧∀ q∈qs,q:=
 ⟨[Y.length≤(100000:Nat),decide (atE Y a b c<(0:Int))=false,(List.take ((atE Y a b c).toNat - Int.toNat (0:Int)) (List.drop (Int.toNat (0:Int)) Y)).length≤(100000:Nat),(0:Int)≤(0:Int)∧(0:Int)≤atE Y a b c∧atE Y a b c≤(↑Y.length:Int),(List.take ((atE Y a b c).toNat - Int.toNat (0:Int)) (List.drop (Int.toNat (0:Int)) Y)).length+(List.take ((↑Y.length:Int).toNat - (IntKind.i64.wrap (atE Y a b c+(1:Int))).toNat) (List.drop (IntKind.i64.wrap (atE Y a b c+(1:Int))).toNat Y)).length≤(100000:Nat),(0:Int)≤IntKind.i64.wrap (atE Y a b c+(1:Int))∧IntKind.i64.wrap (atE Y a b c+(1:Int))≤(↑Y.length:Int)∧(↑Y.length:Int)≤(↑Y.length:Int),(Th.ext (Dk.flat (FL.rw 178 [false,false,false,false] (List.take ((atE Y a b c).toNat - Int.toNat (0:Int)) (List.drop (Int.toNat (0:Int)) Y)++List.take ((Y.length:Int).toNat - (IntKind.i64.wrap ((atE Y a b c)+(1:Int))).toNat) (List.drop (IntKind.i64.wrap ((atE Y a b c)+(1:Int))).toNat Y)))):Td)=Th.ext (Dk.flat (FL.rw 178 [false,false,false,false] (rdT Y a b c))),Value.int IntKind.i64 (Int.ofNat 0)=Value.int IntKind.i64 (rdE Y a b c)],by kernel_rfl,(by refine mcons ?_ (mcons ?_ (mcons ?_ (mcons ?_ (mcons ?_ (mcons ?_ (mcons ?_ (mcons ?_ mnil)))))))<;>first|rfl|exact h0|exact h1|exact h2|trivial|(exact congrArg (fun x=>(Th.ext (Dk.flat (FL.rw 178 [false,false,false,false] x)):Td)) (show _=rdT Y a b c by rw [rdT,h0];rfl))|(exact congrArg (fun x=>(Th.ext (Dk.flat (FL.rw 178 [false,false,false,false] x)):Td)) (show (List.take ((atE Y a b c).toNat - Int.toNat (0:Int)) (List.drop (Int.toNat (0:Int)) Y)++List.take ((Y.length:Int).toNat - (IntKind.i64.wrap ((atE Y a b c)+(1:Int))).toNat) (List.drop (IntKind.i64.wrap ((atE Y a b c)+(1:Int))).toNat Y))=rdT Y a b c by rw [tkr_e h2 h1,rdT,h0];rfl))|(exact congrArg (Value.int .i64) (show _=rdE Y a b c by rw [rdE,h0];rfl))|(exact Nat.le_trans h1 (by decide))|(exact tkr_a h1)|(exact tkr_b h2)|(exact tkr_c h2 h1)|(exact tkr_d h2 h1))⟩
def C_rdr:Ctr Td:=fun us sub=>match us,sub with
 |[.one (.ptr 0 0),.agg [.v (.int .i64 a),.v (.int .i64 b)],.one (.v (.int .i64 c))],[⟨.bx [.obj 1],true⟩,⟨.us (.ext (.flat (.rw 178 [false,false,false,false] Y))),true⟩]=>some ([Y.length≤10000],.c (.one (.v (.int .i64 (rdE Y a b c)))),[⟨.bx [.obj 2],true⟩,⟨.dead,true⟩,⟨.us (.ext (.flat (.rw 178 [false,false,false,false] (rdT Y a b c)))),true⟩])
 |_,_=>none
theorem C_rdr_ok:CtrOk Try.prog Id' 53 C_rdr:=by
 intro us sub ps x sm h hp w e vs hM ha
 unfold C_rdr at h
 split at h
 ·rename_i a b c Y
  simp only [Option.some.injEq,Prod.mk.injEq] at h
  obtain ⟨rfl,rfl,rfl⟩:=h
  have hL:Y.length≤10000:=hp _ (List.mem_cons_self ..)
  cases h0:decide (atE Y a b c<0) with
  |true=>exact ctr_way (I:=Id') (fun (W0:World) (G:Nat→Prop)=>SyOk.mk2 Try.mixed dkHo_ok (FnsR.cons (R_rat21) (FnsR.nil)) EqsOk.nil) rfl Try.func53 (by kernel_rfl) (fun W0 G=>LpsOk.nil _) (cs:=[true]) (by kernel_rfl) (rdr_w0 Y a b c h0 hL) w e vs hM ha
  |false=>exact ctr_way (I:=Id') (fun (W0:World) (G:Nat→Prop)=>SyOk.mk2 Try.mixed dkHo_ok (FnsR.cons (R_rat21) (FnsR.nil)) EqsOk.nil) rfl Try.func53 (by kernel_rfl) (fun W0 G=>LpsOk.nil _) (cs:=[false]) (by kernel_rfl) (rdr_w1 Y a b c h0 hL (atE_in (Nat.le_trans hL (by decide)) h0)) w e vs hM ha
 ·cases h
theorem R_rdr:RowOk Try.prog Id' hardD 53 (ctrF Id' C_rdr hardD):=ctrF_ok Try.call53 C_rdr_ok
def hsE (Y:List Rw) (a b c:Int):Bool:=!(fstI Y.length (atP Y a b c)==-1)
theorem rhs22_n (Y:List Rw) (a b c:Int) (i i2:Int) (k:Nat) (f:Nat→Value) (h0:decide (i<(Y.length:Int))=true) (h1:IntKind.i64.wrap (i+1)=i2) (h2:0≤i∧i.toNat<Y.length) (h3:atP Y a b c (i)=true):∃ qs,alN Id' 3 [(7,.c (.one (.v (.int .i64 i2))))] [⟨.bx [.obj 1],false⟩,⟨.us (.ext (.flat (.rw 176 [false,false,false] Y))),false⟩,⟨.blk [.v (.int .i64 a),.v (.int .i64 b)],true⟩] ((symC (⟨Try.prog,[],[E_of Try.prog 57],dkHo,Id'.one,60⟩:Sy Td) [] 39 (hdC (loopsC (bodyOf Try.f50)) 0) ⟨[(7,.c (.one (.v (.int .i64 i))))]++anyB' (writesC (hdC (loopsC (bodyOf Try.f50)) 0)) ([(0,.c (.one (.ptr 0 0))),(2,.c (.one (.v (.int .i64 c)))),(4,.c (.one (.ptr 2 0)))]++tabV f 39),[⟨.bx [.obj 1],false⟩,⟨.us (.ext (.flat (.rw 176 [false,false,false] Y))),false⟩,⟨.blk [.v (.int .i64 a),.v (.int .i64 b)],true⟩],0⟩).al [true,false])=some qs∧∀ q∈qs,q:=
 ⟨[decide (i<(↑(FL.rw 176 [false,false,false] Y).n:Int))=true,((Y.getD i.toNat Rw.zero).is.getD (0:Nat) (0:Int)==a&&((Y.getD i.toNat Rw.zero).is.getD ((0:Nat)+(1:Nat)) (0:Int)==b&&true)&&true)=true→(0:Int)≤i∧i.toNat<(FL.rw 176 [false,false,false] Y).n,(0:Int)≤i∧i.toNat<(FL.rw 176 [false,false,false] Y).n,((Y.getD i.toNat Rw.zero).is.getD (0:Nat) (0:Int)==a&&((Y.getD i.toNat Rw.zero).is.getD ((0:Nat)+(1:Nat)) (0:Int)==b&&true)&&(Y.getD i.toNat Rw.zero).is.getD ((0:Nat)+(1:Nat)+(1:Nat)) (0:Int)==c)=false,(Th.ext (Dk.flat (FL.rw 176 [false,false,false] Y)):Td)=Th.ext (Dk.flat (FL.rw 176 [false,false,false] Y)),Value.int IntKind.i64 a=Value.int IntKind.i64 a,Value.int IntKind.i64 b=Value.int IntKind.i64 b,Value.int IntKind.i64 (IntKind.i64.wrap (i+(1:Int)))=Value.int IntKind.i64 i2],by kernel_rfl,(by refine mcons ?_ (mcons ?_ (mcons ?_ (mcons ?_ (mcons ?_ (mcons ?_ (mcons ?_ (mcons ?_ mnil)))))))<;>first|rfl|exact h0|exact h1|exact h2|exact h3|trivial|(exact congrArg _ h1)|(exact h2)|(exact fun _=>h2)|(exact hit_no h3)|(exact hit_yes h3))⟩
theorem rhs22_x (Y:List Rw) (a b c:Int) (i i2:Int) (k:Nat) (f:Nat→Value) (h0:decide (i<(Y.length:Int))=false):∃ qs,alX Id' 3 0 [] [⟨.bx [.obj 1],false⟩,⟨.us (.ext (.flat (.rw 176 [false,false,false] Y))),false⟩,⟨.blk [.v (.int .i64 a),.v (.int .i64 b)],true⟩] ((symC (⟨Try.prog,[],[E_of Try.prog 57],dkHo,Id'.one,60⟩:Sy Td) [] 39 (hdC (loopsC (bodyOf Try.f50)) 0) ⟨[(7,.c (.one (.v (.int .i64 i))))]++anyB' (writesC (hdC (loopsC (bodyOf Try.f50)) 0)) ([(0,.c (.one (.ptr 0 0))),(2,.c (.one (.v (.int .i64 c)))),(4,.c (.one (.ptr 2 0)))]++tabV f 39),[⟨.bx [.obj 1],false⟩,⟨.us (.ext (.flat (.rw 176 [false,false,false] Y))),false⟩,⟨.blk [.v (.int .i64 a),.v (.int .i64 b)],true⟩],0⟩).al [false])=some qs∧∀ q∈qs,q:=
 ⟨[decide (i<(↑(FL.rw 176 [false,false,false] Y).n:Int))=false,(Th.ext (Dk.flat (FL.rw 176 [false,false,false] Y)):Td)=Th.ext (Dk.flat (FL.rw 176 [false,false,false] Y)),Value.int IntKind.i64 a=Value.int IntKind.i64 a,Value.int IntKind.i64 b=Value.int IntKind.i64 b],by kernel_rfl,(by refine mcons ?_ (mcons ?_ (mcons ?_ (mcons ?_ mnil)))<;>first|rfl|exact h0|trivial|(exact congrArg _ h1)|(exact h2)|(exact fun _=>h2)|(exact hit_no h3)|(exact hit_yes h3))⟩
theorem rhs22_r (Y:List Rw) (a b c:Int) (i i2:Int) (k:Nat) (f:Nat→Value) (h0:decide (i<(Y.length:Int))=true) (h1:IntKind.i64.wrap (i+1)=i2) (h2:0≤i∧i.toNat<Y.length) (h3:atP Y a b c (i)=false):∃ qs,alR Id' 3 [(6,svV (.bool true))] [⟨.bx [.obj 1],false⟩,⟨.us (.ext (.flat (.rw 176 [false,false,false] Y))),false⟩,⟨.blk [.v (.int .i64 a),.v (.int .i64 b)],true⟩] ((symC (⟨Try.prog,[],[E_of Try.prog 57],dkHo,Id'.one,60⟩:Sy Td) [] 39 (hdC (loopsC (bodyOf Try.f50)) 0) ⟨[(7,.c (.one (.v (.int .i64 i))))]++anyB' (writesC (hdC (loopsC (bodyOf Try.f50)) 0)) ([(0,.c (.one (.ptr 0 0))),(2,.c (.one (.v (.int .i64 c)))),(4,.c (.one (.ptr 2 0)))]++tabV f 39),[⟨.bx [.obj 1],false⟩,⟨.us (.ext (.flat (.rw 176 [false,false,false] Y))),false⟩,⟨.blk [.v (.int .i64 a),.v (.int .i64 b)],true⟩],0⟩).al [true,true])=some qs∧∀ q∈qs,q:=
 ⟨[decide (i<(↑(FL.rw 176 [false,false,false] Y).n:Int))=true,((Y.getD i.toNat Rw.zero).is.getD (0:Nat) (0:Int)==a&&((Y.getD i.toNat Rw.zero).is.getD ((0:Nat)+(1:Nat)) (0:Int)==b&&true)&&true)=true→(0:Int)≤i∧i.toNat<(FL.rw 176 [false,false,false] Y).n,(0:Int)≤i∧i.toNat<(FL.rw 176 [false,false,false] Y).n,((Y.getD i.toNat Rw.zero).is.getD (0:Nat) (0:Int)==a&&((Y.getD i.toNat Rw.zero).is.getD ((0:Nat)+(1:Nat)) (0:Int)==b&&true)&&(Y.getD i.toNat Rw.zero).is.getD ((0:Nat)+(1:Nat)+(1:Nat)) (0:Int)==c)=true,(Th.ext (Dk.flat (FL.rw 176 [false,false,false] Y)):Td)=Th.ext (Dk.flat (FL.rw 176 [false,false,false] Y)),Value.int IntKind.i64 a=Value.int IntKind.i64 a,Value.int IntKind.i64 b=Value.int IntKind.i64 b,Value.bool true=Value.bool true],by kernel_rfl,(by refine mcons ?_ (mcons ?_ (mcons ?_ (mcons ?_ (mcons ?_ (mcons ?_ (mcons ?_ (mcons ?_ mnil)))))))<;>first|rfl|exact h0|exact h1|exact h2|exact h3|trivial|(exact congrArg _ h1)|(exact h2)|(exact fun _=>h2)|(exact hit_no h3)|(exact hit_yes h3))⟩
theorem rhs22_lpA (Y:List Rw) (a b c:Int) (hL:Y.length≤100000)  (hall:∀ i:Int,0≤i→i.toNat<Y.length→atP Y a b c (i)=true) {W0:World} {G:Nat→Prop} (S0:Sy Td) (hS0:S0.P=Try.prog):LoopSound S0 Id' W0 G 39 (hdC (loopsC (bodyOf Try.f50)) 0) (lpG Id' 39 (hdC (loopsC (bodyOf Try.f50)) 0) 3 [(7,.c (.one (.v (.int .i64 ((0+0:Nat):Int)))))] [(0,.c (.one (.ptr 0 0))),(2,.c (.one (.v (.int .i64 c)))),(4,.c (.one (.ptr 2 0)))] [⟨.bx [.obj 1],false⟩,⟨.us (.ext (.flat (.rw 176 [false,false,false] Y))),false⟩,⟨.blk [.v (.int .i64 a),.v (.int .i64 b)],true⟩] (.leaf (.exit 0) [] [⟨.bx [.obj 1],false⟩,⟨.us (.ext (.flat (.rw 176 [false,false,false] Y))),false⟩,⟨.blk [.v (.int .i64 a),.v (.int .i64 b)],true⟩])):=by
 refine lp_sound (V:=fun k=>[(7,.c (.one (.v (.int .i64 ((k+0:Nat):Int)))))]) (M:=(fun k=>[⟨.bx [.obj 1],false⟩,⟨.us (.ext (.flat (.rw 176 [false,false,false] Y))),false⟩,⟨.blk [.v (.int .i64 a),.v (.int .i64 b)],true⟩]:Nat→Mem Td)) (N:=Y.length) (Ux:=fun k x=>match x with|.exit 0=>some ([],([⟨.bx [.obj 1],false⟩,⟨.us (.ext (.flat (.rw 176 [false,false,false] Y))),false⟩,⟨.blk [.v (.int .i64 a),.v (.int .i64 b)],true⟩]:Mem Td))|_=>none) (X:=fun _ _=>True) (J:=fun k=>True) (fun k=>by kernel_rfl) trivial (fun k hk hJ f=>?_) (fun K hK k x U hk hU hX=>?_)
 ·rw [hS0]
  cases hT:decide (((k+0:Nat):Int)<(Y.length:Int)) with
  |false=>
   exact rnd_xD (⟨Try.prog,[],[E_of Try.prog 57],dkHo,Id'.one,60⟩:Sy Td) rfl ((fun (W0:World) (G:Nat→Prop)=>SyOk.mk2 Try.mixed dkHo_ok (FnsR.nil) (E_of_ok (by kernel_rfl) (EqsOk.nil))) W0 G) (rhs22_x Y a b c ((k+0:Nat):Int) ((k+1+0:Nat):Int) k f hT) rfl trivial
  |true=>
   have hk1:=of_decide_eq_true hT
   have hW:IntKind.i64.wrap (((k+0:Nat):Int)+1)=((k+1+0:Nat):Int):=by rw [IntWalk.i64_in _ (by omega)];omega
   exact rnd_nD (⟨Try.prog,[],[E_of Try.prog 57],dkHo,Id'.one,60⟩:Sy Td) rfl ((fun (W0:World) (G:Nat→Prop)=>SyOk.mk2 Try.mixed dkHo_ok (FnsR.nil) (E_of_ok (by kernel_rfl) (EqsOk.nil))) W0 G) (rhs22_n Y a b c ((k+0:Nat):Int) ((k+1+0:Nat):Int) k f hT hW (by omega) (hall _ (by omega) (by omega)) ) rfl rfl (by omega) trivial
 ·revert hU
  match x with
  |.exit 0=>intro hU;simp only [Option.some.injEq] at hU;subst hU;exact hK
  |.normal=>intro hU;cases hU
  |.ret=>intro hU;cases hU
  |.exit (n+1)=>intro hU;cases hU
theorem rhs22_lpR (Y:List Rw) (a b c:Int) (hL:Y.length≤100000)  (hex:∃ i:Int,0≤i∧i.toNat<Y.length∧atP Y a b c (i)=false) {W0:World} {G:Nat→Prop} (S0:Sy Td) (hS0:S0.P=Try.prog):LoopSound S0 Id' W0 G 39 (hdC (loopsC (bodyOf Try.f50)) 0) (lpG Id' 39 (hdC (loopsC (bodyOf Try.f50)) 0) 3 [(7,.c (.one (.v (.int .i64 ((0+0:Nat):Int)))))] [(0,.c (.one (.ptr 0 0))),(2,.c (.one (.v (.int .i64 c)))),(4,.c (.one (.ptr 2 0)))] [⟨.bx [.obj 1],false⟩,⟨.us (.ext (.flat (.rw 176 [false,false,false] Y))),false⟩,⟨.blk [.v (.int .i64 a),.v (.int .i64 b)],true⟩] (.leaf .ret [(6,svV (.bool true))] [⟨.bx [.obj 1],false⟩,⟨.us (.ext (.flat (.rw 176 [false,false,false] Y))),false⟩,⟨.blk [.v (.int .i64 a),.v (.int .i64 b)],true⟩])):=by
 refine lp_sound (V:=fun k=>[(7,.c (.one (.v (.int .i64 ((k+0:Nat):Int)))))]) (M:=(fun k=>[⟨.bx [.obj 1],false⟩,⟨.us (.ext (.flat (.rw 176 [false,false,false] Y))),false⟩,⟨.blk [.v (.int .i64 a),.v (.int .i64 b)],true⟩]:Nat→Mem Td)) (N:=Y.length) (Ux:=fun k x=>match x with|.ret=>some ([(6,svV (.bool true))],([⟨.bx [.obj 1],false⟩,⟨.us (.ext (.flat (.rw 176 [false,false,false] Y))),false⟩,⟨.blk [.v (.int .i64 a),.v (.int .i64 b)],true⟩]:Mem Td))|_=>none) (X:=fun _ _=>True) (J:=fun k=>∀ i:Int,0≤i→i<((k+0:Nat):Int)→atP Y a b c (i)=true) (fun k=>by kernel_rfl) (fun i h0 h1=>by omega) (fun k hk hJ f=>?_) (fun K hK k x U hk hU hX=>?_)
 ·rw [hS0]
  cases hT:decide (((k+0:Nat):Int)<(Y.length:Int)) with
  |false=>
   obtain ⟨j,j0,j1,j2⟩:=hex
   have:=of_decide_eq_false hT
   rw [hJ j j0 (by omega)] at j2
   cases j2
  |true=>
   have hk1:=of_decide_eq_true hT
   have hW:IntKind.i64.wrap (((k+0:Nat):Int)+1)=((k+1+0:Nat):Int):=by rw [IntWalk.i64_in _ (by omega)];omega
   cases hq:atP Y a b c (((k+0:Nat):Int)) with
   |true=>exact rnd_nD (⟨Try.prog,[],[E_of Try.prog 57],dkHo,Id'.one,60⟩:Sy Td) rfl ((fun (W0:World) (G:Nat→Prop)=>SyOk.mk2 Try.mixed dkHo_ok (FnsR.nil) (E_of_ok (by kernel_rfl) (EqsOk.nil))) W0 G) (rhs22_n Y a b c ((k+0:Nat):Int) ((k+1+0:Nat):Int) k f hT hW (by omega) hq ) rfl rfl (by omega) (fun i h0 h1=>by
     by_cases he:i=((k+0:Nat):Int)
     ·subst he;exact hq
     ·exact hJ i h0 (by omega))
   |false=>exact rnd_rD (⟨Try.prog,[],[E_of Try.prog 57],dkHo,Id'.one,60⟩:Sy Td) rfl ((fun (W0:World) (G:Nat→Prop)=>SyOk.mk2 Try.mixed dkHo_ok (FnsR.nil) (E_of_ok (by kernel_rfl) (EqsOk.nil))) W0 G) (rhs22_r Y a b c ((k+0:Nat):Int) ((k+1+0:Nat):Int) k f hT hW (by omega) hq ) rfl trivial
 ·revert hU
  match x with
  |.ret=>intro hU;simp only [Option.some.injEq] at hU;subst hU;exact hK
  |.normal=>intro hU;cases hU
  |.exit n=>intro hU;cases hU
theorem rhs22A_w0 (Y:List Rw) (a b c:Int) :∃ qs,wayV ((runFn (⟨Try.prog,[],[E_of Try.prog 57],dkHo,Id'.one,60⟩:Sy Td) [(2,(lpG Id' 39 (hdC (loopsC (bodyOf Try.f50)) 0) 3 [(7,.c (.one (.v (.int .i64 ((0+0:Nat):Int)))))] [(0,.c (.one (.ptr 0 0))),(2,.c (.one (.v (.int .i64 c)))),(4,.c (.one (.ptr 2 0)))] [⟨.bx [.obj 1],false⟩,⟨.us (.ext (.flat (.rw 176 [false,false,false] Y))),false⟩,⟨.blk [.v (.int .i64 a),.v (.int .i64 b)],true⟩] (.leaf (.exit 0) [] [⟨.bx [.obj 1],false⟩,⟨.us (.ext (.flat (.rw 176 [false,false,false] Y))),false⟩,⟨.blk [.v (.int .i64 a),.v (.int .i64 b)],true⟩])))] Try.f50 [.one (.ptr 0 0),.agg [.v (.int .i64 a),.v (.int .i64 b)],.one (.v (.int .i64 c))] (roM [⟨.bx [.obj 1],true⟩,⟨.us (.ext (.flat (.rw 176 [false,false,false] Y))),true⟩])).al []) (fun u=>u=.bool false)=some qs∧∀ q∈qs,q:=
 ⟨[Value.bool false=Value.bool false,Value.int IntKind.i64 c=Value.int IntKind.i64 c,(Th.ext (Dk.flat (FL.rw 176 [false,false,false] Y)):Td)=Th.ext (Dk.flat (FL.rw 176 [false,false,false] Y)),Value.int IntKind.i64 a=Value.int IntKind.i64 a,Value.int IntKind.i64 b=Value.int IntKind.i64 b,Value.int IntKind.i64 (Int.ofNat 0)=Value.int IntKind.i64 (Int.ofNat ((0:Nat)+(0:Nat)))],by kernel_rfl,(by refine mcons ?_ (mcons ?_ (mcons ?_ (mcons ?_ (mcons ?_ (mcons ?_ mnil)))))<;>first|rfl|trivial)⟩
theorem rhs22R_w0 (Y:List Rw) (a b c:Int) :∃ qs,wayV ((runFn (⟨Try.prog,[],[E_of Try.prog 57],dkHo,Id'.one,60⟩:Sy Td) [(2,(lpG Id' 39 (hdC (loopsC (bodyOf Try.f50)) 0) 3 [(7,.c (.one (.v (.int .i64 ((0+0:Nat):Int)))))] [(0,.c (.one (.ptr 0 0))),(2,.c (.one (.v (.int .i64 c)))),(4,.c (.one (.ptr 2 0)))] [⟨.bx [.obj 1],false⟩,⟨.us (.ext (.flat (.rw 176 [false,false,false] Y))),false⟩,⟨.blk [.v (.int .i64 a),.v (.int .i64 b)],true⟩] (.leaf .ret [(6,svV (.bool true))] [⟨.bx [.obj 1],false⟩,⟨.us (.ext (.flat (.rw 176 [false,false,false] Y))),false⟩,⟨.blk [.v (.int .i64 a),.v (.int .i64 b)],true⟩])))] Try.f50 [.one (.ptr 0 0),.agg [.v (.int .i64 a),.v (.int .i64 b)],.one (.v (.int .i64 c))] (roM [⟨.bx [.obj 1],true⟩,⟨.us (.ext (.flat (.rw 176 [false,false,false] Y))),true⟩])).al []) (fun u=>u=.bool true)=some qs∧∀ q∈qs,q:=
 ⟨[Value.bool true=Value.bool true,Value.int IntKind.i64 c=Value.int IntKind.i64 c,(Th.ext (Dk.flat (FL.rw 176 [false,false,false] Y)):Td)=Th.ext (Dk.flat (FL.rw 176 [false,false,false] Y)),Value.int IntKind.i64 a=Value.int IntKind.i64 a,Value.int IntKind.i64 b=Value.int IntKind.i64 b,Value.int IntKind.i64 (Int.ofNat 0)=Value.int IntKind.i64 (Int.ofNat ((0:Nat)+(0:Nat)))],by kernel_rfl,(by refine mcons ?_ (mcons ?_ (mcons ?_ (mcons ?_ (mcons ?_ (mcons ?_ mnil)))))<;>first|rfl|trivial)⟩
def C_rhs22:CtrV Td:=fun us sub=>match us,sub with
 |[.one (.ptr 0 0),.agg [.v (.int .i64 a),.v (.int .i64 b)],.one (.v (.int .i64 c))],[⟨.bx [.obj 1],false⟩,⟨.us (.ext (.flat (.rw 176 [false,false,false] Y))),false⟩]=>some ([Y.length≤100000],.bool (hsE Y a b c))
 |_,_=>none
theorem C_rhs22_ok:CtrVOk Try.prog Id' 50 C_rhs22:=by
 intro us sub ps x h hp w e vs hM ha
 unfold C_rhs22 at h
 split at h
 ·rename_i a b c Y
  simp only [Option.some.injEq,Prod.mk.injEq] at h
  obtain ⟨rfl,rfl⟩:=h
  have hL:Y.length≤100000:=hp _ (List.mem_cons_self ..)
  rcases fst_cases Y.length (atP Y a b c) with ⟨hv,hall⟩|⟨h1,h2,h3,h4⟩
  ·have hv2:hsE Y a b c=false:=by unfold hsE;rw [hv];rfl
   rw [hv2]
   exact ctrv_way (I:=Id') (fun (W0:World) (G:Nat→Prop)=>SyOk.mk2 Try.mixed dkHo_ok (FnsR.nil) (E_of_ok (by kernel_rfl) (EqsOk.nil))) rfl Try.func50 (by kernel_rfl) (fun W0 G=>LpsOk.cons (by kernel_rfl) (rhs22_lpA Y a b c hL hall _ rfl) (LpsOk.nil _)) (cs:=[]) (by kernel_rfl) (rhs22A_w0 Y a b c ) w e vs hM ha
  ·have hv2:hsE Y a b c=true:=by
    unfold hsE
    rw [beq_eq_false_iff_ne.2 (by omega)];rfl
   rw [hv2]
   exact ctrv_way (I:=Id') (fun (W0:World) (G:Nat→Prop)=>SyOk.mk2 Try.mixed dkHo_ok (FnsR.nil) (E_of_ok (by kernel_rfl) (EqsOk.nil))) rfl Try.func50 (by kernel_rfl) (fun W0 G=>LpsOk.cons (by kernel_rfl) (rhs22_lpR Y a b c hL ⟨_,h1,h2,h3⟩ _ rfl) (LpsOk.nil _)) (cs:=[]) (by kernel_rfl) (rhs22R_w0 Y a b c ) w e vs hM ha
 ·cases h
theorem R_rhs22:RowOk Try.prog Id' hardD 50 (ctrV C_rhs22 hardD):=ctrV_ok Try.call50 C_rhs22_ok
def wtE (Y:List Rw) (a b c:Int):Int:=bif (decide (c<0)||decide (c>7)) then 2 else bif hsE Y a b c then 10 else 0
def wtT (Y:List Rw) (a b c:Int):List Rw:=bif (decide (c<0)||decide (c>7)) then Y else bif hsE Y a b c then Y else Y++[⟨[a,b,c],[]⟩]
theorem rwt_w0 (Y:List Rw) (a b c:Int) (h0:(decide (c<0)||decide (c>7))=true):∃ qs,wayO Id' ([⟨.bx [.obj 1],true⟩,⟨.us (.ext (.flat (.rw 176 [false,false,false] Y))),true⟩]:Mem Td).length [⟨.bx [.obj 2],true⟩,⟨.dead,true⟩,⟨.us (.ext (.flat (.rw 176 [false,false,false] (wtT Y a b c)))),true⟩] (.c (.one (.v (.int .i64 (wtE Y a b c))))) ((runFn (⟨Try.prog,[(50,ctrV C_rhs22 hardD)],[],dkHo,Id'.one,60⟩:Sy Td) [] Try.f49 [.one (.ptr 0 0),.agg [.v (.int .i64 a),.v (.int .i64 b)],.one (.v (.int .i64 c))] [⟨.bx [.obj 1],true⟩,⟨.us (.ext (.flat (.rw 176 [false,false,false] Y))),true⟩]).al [true])=some qs∧∀ q∈qs,q:=
 ⟨[(decide (c<(0:Int))||decide (c>(7:Int)))=true,(Th.ext (Dk.flat (FL.rw 176 [false,false,false] Y)):Td)=Th.ext (Dk.flat (FL.rw 176 [false,false,false] (wtT Y a b c))),Value.int IntKind.i64 (Int.ofNat 2)=Value.int IntKind.i64 (wtE Y a b c)],by kernel_rfl,(by refine mcons ?_ (mcons ?_ (mcons ?_ mnil))<;>first|rfl|exact h0|trivial|(exact congrArg (fun x=>(Th.ext (Dk.flat (FL.rw 176 [false,false,false] x)):Td)) (show _=wtT Y a b c by rw [wtT,h0,h1];rfl))|(exact congrArg (fun x=>(Th.ext (Dk.flat (FL.rw 176 [false,false,false] x)):Td)) (show _=wtT Y a b c by rw [wtT,h0];rfl))|(exact congrArg (Value.int .i64) (show _=wtE Y a b c by rw [wtE,h0,h1];rfl))|(exact congrArg (Value.int .i64) (show _=wtE Y a b c by rw [wtE,h0];rfl))|(exact Nat.le_trans h2 (by decide))|(show Y.length+1≤100000;omega))⟩
theorem rwt_w1 (Y:List Rw) (a b c:Int) (h0:(decide (c<0)||decide (c>7))=false) (h1:hsE Y a b c=true) (h2:Y.length≤10000):∃ qs,wayO Id' ([⟨.bx [.obj 1],true⟩,⟨.us (.ext (.flat (.rw 176 [false,false,false] Y))),true⟩]:Mem Td).length [⟨.bx [.obj 2],true⟩,⟨.dead,true⟩,⟨.us (.ext (.flat (.rw 176 [false,false,false] (wtT Y a b c)))),true⟩] (.c (.one (.v (.int .i64 (wtE Y a b c))))) ((runFn (⟨Try.prog,[(50,ctrV C_rhs22 hardD)],[],dkHo,Id'.one,60⟩:Sy Td) [] Try.f49 [.one (.ptr 0 0),.agg [.v (.int .i64 a),.v (.int .i64 b)],.one (.v (.int .i64 c))] [⟨.bx [.obj 1],true⟩,⟨.us (.ext (.flat (.rw 176 [false,false,false] Y))),true⟩]).al [false,true])=some qs∧∀ q∈qs,q:=
 ⟨[(decide (c<(0:Int))||decide (c>(7:Int)))=false,Y.length≤(100000:Nat),hsE Y a b c=true,(Th.ext (Dk.flat (FL.rw 176 [false,false,false] Y)):Td)=Th.ext (Dk.flat (FL.rw 176 [false,false,false] (wtT Y a b c))),Value.int IntKind.i64 (Int.ofNat 10)=Value.int IntKind.i64 (wtE Y a b c)],by kernel_rfl,(by refine mcons ?_ (mcons ?_ (mcons ?_ (mcons ?_ (mcons ?_ mnil))))<;>first|rfl|exact h0|exact h1|exact h2|trivial|(exact congrArg (fun x=>(Th.ext (Dk.flat (FL.rw 176 [false,false,false] x)):Td)) (show _=wtT Y a b c by rw [wtT,h0,h1];rfl))|(exact congrArg (fun x=>(Th.ext (Dk.flat (FL.rw 176 [false,false,false] x)):Td)) (show _=wtT Y a b c by rw [wtT,h0];rfl))|(exact congrArg (Value.int .i64) (show _=wtE Y a b c by rw [wtE,h0,h1];rfl))|(exact congrArg (Value.int .i64) (show _=wtE Y a b c by rw [wtE,h0];rfl))|(exact Nat.le_trans h2 (by decide))|(show Y.length+1≤100000;omega))⟩
theorem rwt_w2 (Y:List Rw) (a b c:Int) (h0:(decide (c<0)||decide (c>7))=false) (h1:hsE Y a b c=false) (h2:Y.length≤10000):∃ qs,wayO Id' ([⟨.bx [.obj 1],true⟩,⟨.us (.ext (.flat (.rw 176 [false,false,false] Y))),true⟩]:Mem Td).length [⟨.bx [.obj 2],true⟩,⟨.dead,true⟩,⟨.us (.ext (.flat (.rw 176 [false,false,false] (wtT Y a b c)))),true⟩] (.c (.one (.v (.int .i64 (wtE Y a b c))))) ((runFn (⟨Try.prog,[(50,ctrV C_rhs22 hardD)],[],dkHo,Id'.one,60⟩:Sy Td) [] Try.f49 [.one (.ptr 0 0),.agg [.v (.int .i64 a),.v (.int .i64 b)],.one (.v (.int .i64 c))] [⟨.bx [.obj 1],true⟩,⟨.us (.ext (.flat (.rw 176 [false,false,false] Y))),true⟩]).al [false,false])=some qs∧∀ q∈qs,q:=
 ⟨[(decide (c<(0:Int))||decide (c>(7:Int)))=false,Y.length≤(100000:Nat),hsE Y a b c=false,Y.length+[Rw.mk [a,b,c] []].length≤(100000:Nat),(Th.ext (Dk.flat (FL.rw 176 [false,false,false] (Y++[⟨[a,b,c],[]⟩]))):Td)=Th.ext (Dk.flat (FL.rw 176 [false,false,false] (wtT Y a b c))),Value.int IntKind.i64 (Int.ofNat 0)=Value.int IntKind.i64 (wtE Y a b c)],by kernel_rfl,(by refine mcons ?_ (mcons ?_ (mcons ?_ (mcons ?_ (mcons ?_ (mcons ?_ mnil)))))<;>first|rfl|exact h0|exact h1|exact h2|trivial|(exact congrArg (fun x=>(Th.ext (Dk.flat (FL.rw 176 [false,false,false] x)):Td)) (show _=wtT Y a b c by rw [wtT,h0,h1];rfl))|(exact congrArg (fun x=>(Th.ext (Dk.flat (FL.rw 176 [false,false,false] x)):Td)) (show _=wtT Y a b c by rw [wtT,h0];rfl))|(exact congrArg (Value.int .i64) (show _=wtE Y a b c by rw [wtE,h0,h1];rfl))|(exact congrArg (Value.int .i64) (show _=wtE Y a b c by rw [wtE,h0];rfl))|(exact Nat.le_trans h2 (by decide))|(show Y.length+1≤100000;omega))⟩
def C_rwt:Ctr Td:=fun us sub=>match us,sub with
 |[.one (.ptr 0 0),.agg [.v (.int .i64 a),.v (.int .i64 b)],.one (.v (.int .i64 c))],[⟨.bx [.obj 1],true⟩,⟨.us (.ext (.flat (.rw 176 [false,false,false] Y))),true⟩]=>some ([Y.length≤10000],.c (.one (.v (.int .i64 (wtE Y a b c)))),[⟨.bx [.obj 2],true⟩,⟨.dead,true⟩,⟨.us (.ext (.flat (.rw 176 [false,false,false] (wtT Y a b c)))),true⟩])
 |_,_=>none
theorem C_rwt_ok:CtrOk Try.prog Id' 49 C_rwt:=by
 intro us sub ps x sm h hp w e vs hM ha
 unfold C_rwt at h
 split at h
 ·rename_i a b c Y
  simp only [Option.some.injEq,Prod.mk.injEq] at h
  obtain ⟨rfl,rfl,rfl⟩:=h
  have hL:Y.length≤10000:=hp _ (List.mem_cons_self ..)
  cases h0:(decide (c<0)||decide (c>7)) with
  |true=>exact ctr_way (I:=Id') (fun (W0:World) (G:Nat→Prop)=>SyOk.mk2 Try.mixed dkHo_ok (FnsR.cons (R_rhs22) (FnsR.nil)) EqsOk.nil) rfl Try.func49 (by kernel_rfl) (fun W0 G=>LpsOk.nil _) (cs:=[true]) (by kernel_rfl) (rwt_w0 Y a b c h0) w e vs hM ha
  |false=>
   cases h1:hsE Y a b c with
   |true=>exact ctr_way (I:=Id') (fun (W0:World) (G:Nat→Prop)=>SyOk.mk2 Try.mixed dkHo_ok (FnsR.cons (R_rhs22) (FnsR.nil)) EqsOk.nil) rfl Try.func49 (by kernel_rfl) (fun W0 G=>LpsOk.nil _) (cs:=[false,true]) (by kernel_rfl) (rwt_w1 Y a b c h0 h1 hL) w e vs hM ha
   |false=>exact ctr_way (I:=Id') (fun (W0:World) (G:Nat→Prop)=>SyOk.mk2 Try.mixed dkHo_ok (FnsR.cons (R_rhs22) (FnsR.nil)) EqsOk.nil) rfl Try.func49 (by kernel_rfl) (fun W0 G=>LpsOk.nil _) (cs:=[false,false]) (by kernel_rfl) (rwt_w2 Y a b c h0 h1 hL) w e vs hM ha
 ·cases h
theorem R_rwt:RowOk Try.prog Id' hardD 49 (ctrF Id' C_rwt hardD):=ctrF_ok Try.call49 C_rwt_ok
def nr3 (r:Rw):Rw:=⟨[r.is.getD 0 0,r.is.getD 1 0,r.is.getD 2 0],[]⟩
def gaR (p:Rw→Bool) (Y:List Rw):Nat→List Rw
 |0=>[]
 |k+1=>bif p (Y.getD k Rw.zero) then gaR p Y k++[nr3 (Y.getD k Rw.zero)] else gaR p Y k
theorem gaR_len (p:Rw→Bool) (Y:List Rw):∀ k,(gaR p Y k).length≤k
 |0=>Nat.le_refl _
 |k+1=>by
  have:=gaR_len p Y k
  unfold gaR
  cases p (Y.getD k Rw.zero) with
  |true=>simp only [cond_true,List.length_append,List.length_cons,List.length_nil];omega
  |false=>simp only [cond_false];omega
theorem gaR_yes {p:Rw→Bool} {Y:List Rw} {k:Nat} (h:p (Y.getD k Rw.zero)=true):gaR p Y (k+1)=gaR p Y k++[nr3 (Y.getD k Rw.zero)]:=by rw [gaR,h];rfl
theorem gaR_no {p:Rw→Bool} {Y:List Rw} {k:Nat} (h:p (Y.getD k Rw.zero)=false):gaR p Y (k+1)=gaR p Y k:=by rw [gaR,h];rfl
theorem gaR_take (p:Rw→Bool) (Y:List Rw):∀ k,k≤Y.length→gaR p Y k=((Y.take k).filter p).map nr3
 |0,_=>rfl
 |k+1,h=>by
  have hx:Y.getD k Rw.zero=Y[k]:=by rw [List.getD_eq_getElem?_getD,List.getElem?_eq_getElem (by omega)];rfl
  rw [List.take_add_one,List.getElem?_eq_getElem (by omega),List.filter_append,List.map_append,←gaR_take p Y k (by omega),gaR,hx]
  show _=_++(List.filter _ [Y[k]]).map nr3
  cases hq:p Y[k] with
  |true=>rw [cond_true,List.filter_cons,if_pos hq];rfl
  |false=>rw [cond_false,List.filter_cons,if_neg (by rw [hq];decide),List.filter_nil,List.map_nil,List.append_nil]
theorem gaR_all (p:Rw→Bool) (Y:List Rw):gaR p Y Y.length=(Y.filter p).map nr3:=by rw [gaR_take p Y _ (Nat.le_refl _),List.take_of_length_le (Nat.le_refl _)]
def drP (cl:Int) (ev:Bool) (a b:Int) (r:Rw):Bool:=decide (cl≥0)&&r.is.getD 2 0 != cl||!ev&&!(r.is.getD 0 0==a&&(r.is.getD 1 0==b&&true))
theorem rdq_n1 (Y:List Rw) (cl:Int) (ev:Bool) (a b:Int) (Xs Ys:List Rw) (k:Nat) (f:Nat→Value) (h0:decide ((k:Int)<(Y.length:Int))=true) (h1:IntKind.i64.wrap ((k:Int)+1)=((k+1:Nat):Int)) (h2:k<Y.length) (h3:(drP cl ev a b) (Y.getD k Rw.zero)=true) (h4:Xs++[nr3 (Y.getD k Rw.zero)]=Ys) (h5:Xs.length≤10000):∃ qs,alN Id' 3 [(9,.c (.one (.obj 3))),(10,.c (.one (.v (.int .i64 ((k+1:Nat):Int)))))] [⟨.bx [.obj 1],true⟩,⟨.us (.ext (.flat (.rw 176 [false,false,false] Y))),true⟩,⟨.blk [.v (.int .i64 a),.v (.int .i64 b)],true⟩,⟨.us (.ext (.flat (.rw 176 [false,false,false] Ys))),true⟩] ((symC (⟨Try.prog,[],[E_of Try.prog 57],dkHo,Id'.one,60⟩:Sy Td) [] 64 (hdC (loopsC (bodyOf Try.f51)) 0) ⟨[(9,.c (.one (.obj 3))),(10,.c (.one (.v (.int .i64 (k:Int)))))]++anyB' (writesC (hdC (loopsC (bodyOf Try.f51)) 0)) ([(0,.c (.one (.ptr 0 0))),(1,.c (.one (.v (.int .i64 cl)))),(2,svV (.bool ev)),(7,.c (.one (.ptr 2 0)))]++tabV f 64),[⟨.bx [.obj 1],true⟩,⟨.us (.ext (.flat (.rw 176 [false,false,false] Y))),true⟩,⟨.blk [.v (.int .i64 a),.v (.int .i64 b)],true⟩,⟨.us (.ext (.flat (.rw 176 [false,false,false] Xs))),true⟩],0⟩).al [true,true])=some qs∧∀ q∈qs,q:=
 ⟨[decide ((↑k:Int)<(↑(FL.rw 176 [false,false,false] Y).n:Int))=true,(0:Int)≤(↑k:Int)∧(↑k:Int).toNat<(FL.rw 176 [false,false,false] Y).n,(decide (cl≥(0:Int))&&(Y.getD (↑k:Int).toNat Rw.zero).is.getD ((0:Nat)+(1:Nat)+(1:Nat)) (0:Int) != cl||!ev&&!((Y.getD (↑k:Int).toNat Rw.zero).is.getD (0:Nat) (0:Int)==a&&((Y.getD (↑k:Int).toNat Rw.zero).is.getD ((0:Nat)+(1:Nat)) (0:Int)==b&&true)))=true,Xs.length+[Rw.mk [(Y.getD (↑k:Int).toNat Rw.zero).is.getD (0:Nat) (0:Int),(Y.getD (↑k:Int).toNat Rw.zero).is.getD ((0:Nat)+(1:Nat)) (0:Int),(Y.getD (↑k:Int).toNat Rw.zero).is.getD ((0:Nat)+(1:Nat)+(1:Nat)) (0:Int)] []].length≤(100000:Nat),(Th.ext (Dk.flat (FL.rw 176 [false,false,false] Y)):Td)=Th.ext (Dk.flat (FL.rw 176 [false,false,false] Y)),Value.int IntKind.i64 a=Value.int IntKind.i64 a,Value.int IntKind.i64 b=Value.int IntKind.i64 b,(Th.ext (Dk.flat (FL.rw 176 [false,false,false] (Xs++[nr3 (Y.getD k Rw.zero)]))):Td)=Th.ext (Dk.flat (FL.rw 176 [false,false,false] Ys)),Value.int IntKind.i64 (IntKind.i64.wrap ((↑k:Int)+(1:Int)))=Value.int IntKind.i64 (↑(k+(1:Nat)):Int)],by kernel_rfl,(by refine mcons ?_ (mcons ?_ (mcons ?_ (mcons ?_ (mcons ?_ (mcons ?_ (mcons ?_ (mcons ?_ (mcons ?_ mnil))))))))<;>first|rfl|exact h0|exact h1|exact h2|exact h3|exact h4|exact h5|trivial|(exact congrArg (fun x=>(Th.ext (Dk.flat (FL.rw 176 [false,false,false] x)):Td)) h4)|(exact congrArg (fun x=>(Th.ext (Dk.flat (FL.rw 176 [false,false,false] x)):Td)) h1)|(exact congrArg (Value.int .i64) h1)|(show Xs.length+1≤100000;omega)|(exact ⟨by omega,by show (k:Int).toNat<Y.length;omega⟩))⟩
theorem rdq_n2 (Y:List Rw) (cl:Int) (ev:Bool) (a b:Int) (Xs Ys:List Rw) (k:Nat) (f:Nat→Value) (h0:decide ((k:Int)<(Y.length:Int))=true) (h1:IntKind.i64.wrap ((k:Int)+1)=((k+1:Nat):Int)) (h2:k<Y.length) (h3:(drP cl ev a b) (Y.getD k Rw.zero)=false) (h4:Xs=Ys):∃ qs,alN Id' 3 [(9,.c (.one (.obj 3))),(10,.c (.one (.v (.int .i64 ((k+1:Nat):Int)))))] [⟨.bx [.obj 1],true⟩,⟨.us (.ext (.flat (.rw 176 [false,false,false] Y))),true⟩,⟨.blk [.v (.int .i64 a),.v (.int .i64 b)],true⟩,⟨.us (.ext (.flat (.rw 176 [false,false,false] Ys))),true⟩] ((symC (⟨Try.prog,[],[E_of Try.prog 57],dkHo,Id'.one,60⟩:Sy Td) [] 64 (hdC (loopsC (bodyOf Try.f51)) 0) ⟨[(9,.c (.one (.obj 3))),(10,.c (.one (.v (.int .i64 (k:Int)))))]++anyB' (writesC (hdC (loopsC (bodyOf Try.f51)) 0)) ([(0,.c (.one (.ptr 0 0))),(1,.c (.one (.v (.int .i64 cl)))),(2,svV (.bool ev)),(7,.c (.one (.ptr 2 0)))]++tabV f 64),[⟨.bx [.obj 1],true⟩,⟨.us (.ext (.flat (.rw 176 [false,false,false] Y))),true⟩,⟨.blk [.v (.int .i64 a),.v (.int .i64 b)],true⟩,⟨.us (.ext (.flat (.rw 176 [false,false,false] Xs))),true⟩],0⟩).al [true,false])=some qs∧∀ q∈qs,q:=
 ⟨[decide ((↑k:Int)<(↑(FL.rw 176 [false,false,false] Y).n:Int))=true,(0:Int)≤(↑k:Int)∧(↑k:Int).toNat<(FL.rw 176 [false,false,false] Y).n,(decide (cl≥(0:Int))&&(Y.getD (↑k:Int).toNat Rw.zero).is.getD ((0:Nat)+(1:Nat)+(1:Nat)) (0:Int) != cl||!ev&&!((Y.getD (↑k:Int).toNat Rw.zero).is.getD (0:Nat) (0:Int)==a&&((Y.getD (↑k:Int).toNat Rw.zero).is.getD ((0:Nat)+(1:Nat)) (0:Int)==b&&true)))=false,(Th.ext (Dk.flat (FL.rw 176 [false,false,false] Y)):Td)=Th.ext (Dk.flat (FL.rw 176 [false,false,false] Y)),Value.int IntKind.i64 a=Value.int IntKind.i64 a,Value.int IntKind.i64 b=Value.int IntKind.i64 b,(Th.ext (Dk.flat (FL.rw 176 [false,false,false] Xs)):Td)=Th.ext (Dk.flat (FL.rw 176 [false,false,false] Ys)),Value.int IntKind.i64 (IntKind.i64.wrap ((↑k:Int)+(1:Int)))=Value.int IntKind.i64 (↑(k+(1:Nat)):Int)],by kernel_rfl,(by refine mcons ?_ (mcons ?_ (mcons ?_ (mcons ?_ (mcons ?_ (mcons ?_ (mcons ?_ (mcons ?_ mnil)))))))<;>first|rfl|exact h0|exact h1|exact h2|exact h3|exact h4|trivial|(exact congrArg (fun x=>(Th.ext (Dk.flat (FL.rw 176 [false,false,false] x)):Td)) h4)|(exact congrArg (fun x=>(Th.ext (Dk.flat (FL.rw 176 [false,false,false] x)):Td)) h4)|(exact congrArg (Value.int .i64) h1)|(show Xs.length+1≤100000;omega)|(exact ⟨by omega,by show (k:Int).toNat<Y.length;omega⟩))⟩
theorem rdq_x (Y:List Rw) (cl:Int) (ev:Bool) (a b:Int) (Xs Ys:List Rw) (k:Nat) (f:Nat→Value) (h0:decide ((k:Int)<(Y.length:Int))=false) (h1:Xs=Ys):∃ qs,alX Id' 3 0 [(9,.c (.one (.obj 3)))] [⟨.bx [.obj 1],true⟩,⟨.us (.ext (.flat (.rw 176 [false,false,false] Y))),true⟩,⟨.blk [.v (.int .i64 a),.v (.int .i64 b)],true⟩,⟨.us (.ext (.flat (.rw 176 [false,false,false] Ys))),true⟩] ((symC (⟨Try.prog,[],[E_of Try.prog 57],dkHo,Id'.one,60⟩:Sy Td) [] 64 (hdC (loopsC (bodyOf Try.f51)) 0) ⟨[(9,.c (.one (.obj 3))),(10,.c (.one (.v (.int .i64 (k:Int)))))]++anyB' (writesC (hdC (loopsC (bodyOf Try.f51)) 0)) ([(0,.c (.one (.ptr 0 0))),(1,.c (.one (.v (.int .i64 cl)))),(2,svV (.bool ev)),(7,.c (.one (.ptr 2 0)))]++tabV f 64),[⟨.bx [.obj 1],true⟩,⟨.us (.ext (.flat (.rw 176 [false,false,false] Y))),true⟩,⟨.blk [.v (.int .i64 a),.v (.int .i64 b)],true⟩,⟨.us (.ext (.flat (.rw 176 [false,false,false] Xs))),true⟩],0⟩).al [false])=some qs∧∀ q∈qs,q:=
 ⟨[decide ((↑k:Int)<(↑(FL.rw 176 [false,false,false] Y).n:Int))=false,(Th.ext (Dk.flat (FL.rw 176 [false,false,false] Y)):Td)=Th.ext (Dk.flat (FL.rw 176 [false,false,false] Y)),Value.int IntKind.i64 a=Value.int IntKind.i64 a,Value.int IntKind.i64 b=Value.int IntKind.i64 b,(Th.ext (Dk.flat (FL.rw 176 [false,false,false] Xs)):Td)=Th.ext (Dk.flat (FL.rw 176 [false,false,false] Ys))],by kernel_rfl,(by refine mcons ?_ (mcons ?_ (mcons ?_ (mcons ?_ (mcons ?_ mnil))))<;>first|rfl|exact h0|exact h1|trivial|(exact congrArg (fun x=>(Th.ext (Dk.flat (FL.rw 176 [false,false,false] x)):Td)) h4)|(exact congrArg (fun x=>(Th.ext (Dk.flat (FL.rw 176 [false,false,false] x)):Td)) h1)|(exact congrArg (Value.int .i64) h1)|(show Xs.length+1≤100000;omega)|(exact ⟨by omega,by show (k:Int).toNat<Y.length;omega⟩))⟩
theorem rdq_lp (Y:List Rw) (cl:Int) (ev:Bool) (a b:Int) (hY:Y.length≤10000)  {W0:World} {G:Nat→Prop} (S0:Sy Td) (hS0:S0.P=Try.prog):LoopSound S0 Id' W0 G 64 (hdC (loopsC (bodyOf Try.f51)) 0) (lpG Id' 64 (hdC (loopsC (bodyOf Try.f51)) 0) 3 [(9,.c (.one (.obj 3))),(10,.c (.one (.v (.int .i64 ((0:Nat):Int)))))] [(0,.c (.one (.ptr 0 0))),(1,.c (.one (.v (.int .i64 cl)))),(2,svV (.bool ev)),(7,.c (.one (.ptr 2 0)))] [⟨.bx [.obj 1],true⟩,⟨.us (.ext (.flat (.rw 176 [false,false,false] Y))),true⟩,⟨.blk [.v (.int .i64 a),.v (.int .i64 b)],true⟩,⟨.us (.ext (.flat (.rw 176 [false,false,false] (gaR (drP cl ev a b) Y 0)))),true⟩] (.leaf (.exit 0) [(9,.c (.one (.obj 3)))] [⟨.bx [.obj 1],true⟩,⟨.us (.ext (.flat (.rw 176 [false,false,false] Y))),true⟩,⟨.blk [.v (.int .i64 a),.v (.int .i64 b)],true⟩,⟨.us (.ext (.flat (.rw 176 [false,false,false] (gaR (drP cl ev a b) Y Y.length)))),true⟩])):=by
 refine lp_sound (V:=fun k=>[(9,.c (.one (.obj 3))),(10,.c (.one (.v (.int .i64 (k:Int)))))]) (M:=(fun k=>[⟨.bx [.obj 1],true⟩,⟨.us (.ext (.flat (.rw 176 [false,false,false] Y))),true⟩,⟨.blk [.v (.int .i64 a),.v (.int .i64 b)],true⟩,⟨.us (.ext (.flat (.rw 176 [false,false,false] (gaR (drP cl ev a b) Y k)))),true⟩]:Nat→Mem Td)) (N:=Y.length) (Ux:=fun k x=>match x with|.exit 0=>some ([(9,.c (.one (.obj 3)))],([⟨.bx [.obj 1],true⟩,⟨.us (.ext (.flat (.rw 176 [false,false,false] Y))),true⟩,⟨.blk [.v (.int .i64 a),.v (.int .i64 b)],true⟩,⟨.us (.ext (.flat (.rw 176 [false,false,false] (gaR (drP cl ev a b) Y Y.length)))),true⟩]:Mem Td))|_=>none) (X:=fun _ _=>True) (J:=fun k=>k≤Y.length) (fun k=>by kernel_rfl) (Nat.zero_le _) (fun k hk hJ f=>?_) (fun K hK k x U hk hU hX=>?_)
 ·rw [hS0]
  have hXl:=gaR_len (drP cl ev a b) Y k
  cases hT:decide ((k:Int)<(Y.length:Int)) with
  |false=>
   have hk1:k=Y.length:=by have:=of_decide_eq_false hT;omega
   exact rnd_xD (⟨Try.prog,[],[E_of Try.prog 57],dkHo,Id'.one,60⟩:Sy Td) rfl ((fun (W0:World) (G:Nat→Prop)=>SyOk.mk2 Try.mixed dkHo_ok (FnsR.nil) (E_of_ok (by kernel_rfl) (EqsOk.nil))) W0 G) (rdq_x Y cl ev a b _ _ k f hT (by rw [hk1])) rfl trivial
  |true=>
   have hk1:k<Y.length:=by have:=of_decide_eq_true hT;omega
   have hW:IntKind.i64.wrap ((k:Int)+1)=((k+1:Nat):Int):=by rw [IntWalk.i64_in _ (by omega)];omega
   cases hE:(drP cl ev a b) (Y.getD k Rw.zero) with
   |true=>exact rnd_nD (⟨Try.prog,[],[E_of Try.prog 57],dkHo,Id'.one,60⟩:Sy Td) rfl ((fun (W0:World) (G:Nat→Prop)=>SyOk.mk2 Try.mixed dkHo_ok (FnsR.nil) (E_of_ok (by kernel_rfl) (EqsOk.nil))) W0 G) (rdq_n1 Y cl ev a b _ _ k f hT hW hk1 hE (gaR_yes hE).symm (by omega) ) rfl rfl (by omega) (by omega)
   |false=>exact rnd_nD (⟨Try.prog,[],[E_of Try.prog 57],dkHo,Id'.one,60⟩:Sy Td) rfl ((fun (W0:World) (G:Nat→Prop)=>SyOk.mk2 Try.mixed dkHo_ok (FnsR.nil) (E_of_ok (by kernel_rfl) (EqsOk.nil))) W0 G) (rdq_n2 Y cl ev a b _ _ k f hT hW hk1 hE (gaR_no hE).symm ) rfl rfl (by omega) (by omega)
 ·revert hU
  match x with
  |.exit 0=>intro hU;simp only [Option.some.injEq] at hU;subst hU;exact hK
  |.normal=>intro hU;cases hU
  |.ret=>intro hU;cases hU
  |.exit (n+1)=>intro hU;cases hU
theorem nil_rw3 {t:TypeId} {ks:List Bool} {X:List Rw} (h:X=[]):∀ w,Id'.holds (Th.ext (Dk.flat (FL.rw t ks X)):Td) w nilV∧∀ j,¬ Id'.foot (Th.ext (Dk.flat (FL.rw t ks X)):Td) w nilV j:=by
 subst h
 exact fun w=>⟨⟨(fun r hr=>by cases hr),0,Nat.zero_le _,owns_nilV w 0 _ _⟩,(fun j h=>by cases h)⟩
theorem rdq_w0 (Y:List Rw) (cl:Int) (ev:Bool) (a b:Int) (h0:Y.length≤10000):∃ qs,wayO Id' ([⟨.bx [.obj 1],true⟩,⟨.us (.ext (.flat (.rw 176 [false,false,false] Y))),true⟩]:Mem Td).length [⟨.bx [.obj 2],true⟩,⟨.dead,true⟩,⟨.us (.ext (.flat (.rw 176 [false,false,false] (gaR (drP cl ev a b) Y Y.length)))),true⟩] (.c (.one (.v (.int .i64 (IntKind.i64.wrap ((Y.length:Int) - ((gaR (drP cl ev a b) Y Y.length).length:Int))))))) ((runFn (⟨Try.prog,[],[E_of Try.prog 57],dkHo,Id'.one,60⟩:Sy Td) [(3,(lpG Id' 64 (hdC (loopsC (bodyOf Try.f51)) 0) 3 [(9,.c (.one (.obj 3))),(10,.c (.one (.v (.int .i64 ((0:Nat):Int)))))] [(0,.c (.one (.ptr 0 0))),(1,.c (.one (.v (.int .i64 cl)))),(2,svV (.bool ev)),(7,.c (.one (.ptr 2 0)))] [⟨.bx [.obj 1],true⟩,⟨.us (.ext (.flat (.rw 176 [false,false,false] Y))),true⟩,⟨.blk [.v (.int .i64 a),.v (.int .i64 b)],true⟩,⟨.us (.ext (.flat (.rw 176 [false,false,false] (gaR (drP cl ev a b) Y 0)))),true⟩] (.leaf (.exit 0) [(9,.c (.one (.obj 3)))] [⟨.bx [.obj 1],true⟩,⟨.us (.ext (.flat (.rw 176 [false,false,false] Y))),true⟩,⟨.blk [.v (.int .i64 a),.v (.int .i64 b)],true⟩,⟨.us (.ext (.flat (.rw 176 [false,false,false] (gaR (drP cl ev a b) Y Y.length)))),true⟩])))] Try.f51 [.one (.ptr 0 0),.one (.v (.int .i64 cl)),.one (.v (.bool ev)),.agg [.v (.int .i64 a),.v (.int .i64 b)]] [⟨.bx [.obj 1],true⟩,⟨.us (.ext (.flat (.rw 176 [false,false,false] Y))),true⟩]).al [])=some qs∧∀ q∈qs,q:=
 ⟨[Value.int IntKind.i64 cl=Value.int IntKind.i64 cl,Value.bool ev=Value.bool ev,(Th.ext (Dk.flat (FL.rw 176 [false,false,false] Y)):Td)=Th.ext (Dk.flat (FL.rw 176 [false,false,false] Y)),Value.int IntKind.i64 a=Value.int IntKind.i64 a,Value.int IntKind.i64 b=Value.int IntKind.i64 b,∀ (w:World),Id'.holds (Th.ext (Dk.flat (FL.rw 176 [false,false,false] (gaR (drP cl ev a b) Y (0:Nat))))) w nilV∧∀ (j:Nat),¬Id'.foot (Th.ext (Dk.flat (FL.rw 176 [false,false,false] (gaR (drP cl ev a b) Y (0:Nat))))) w nilV j,Value.int IntKind.i64 (Int.ofNat 0)=Value.int IntKind.i64 (Int.ofNat (0:Nat)),(Th.ext (Dk.flat (FL.rw 176 [false,false,false] (Nat.brecOn.go Y.length (gaR._f (drP cl ev a b) Y)).1)):Td)=Th.ext (Dk.flat (FL.rw 176 [false,false,false] (Nat.brecOn.go Y.length (gaR._f (drP cl ev a b) Y)).1)),Value.int IntKind.i64 (IntKind.i64.wrap ((↑(FL.rw 176 [false,false,false] Y).n:Int) - (↑(FL.rw 176 [false,false,false] (gaR (drP cl ev a b) Y Y.length)).n:Int)))=Value.int IntKind.i64 (IntKind.i64.wrap ((↑Y.length:Int) - (↑(gaR (drP cl ev a b) Y Y.length).length:Int)))],by kernel_rfl,(by refine mcons ?_ (mcons ?_ (mcons ?_ (mcons ?_ (mcons ?_ (mcons ?_ (mcons ?_ (mcons ?_ (mcons ?_ mnil))))))))<;>first|rfl|exact h0|trivial|(exact h0)|(exact nil_rw3 rfl))⟩
def C_rdq:Ctr Td:=fun us sub=>match us,sub with
 |[.one (.ptr 0 0),.one (.v (.int .i64 cl)),.one (.v (.bool ev)),.agg [.v (.int .i64 a),.v (.int .i64 b)]],[⟨.bx [.obj 1],true⟩,⟨.us (.ext (.flat (.rw 176 [false,false,false] Y))),true⟩]=>some ([Y.length≤10000],.c (.one (.v (.int .i64 (IntKind.i64.wrap ((Y.length:Int) - ((gaR (drP cl ev a b) Y Y.length).length:Int)))))),[⟨.bx [.obj 2],true⟩,⟨.dead,true⟩,⟨.us (.ext (.flat (.rw 176 [false,false,false] (gaR (drP cl ev a b) Y Y.length)))),true⟩])
 |_,_=>none
theorem C_rdq_ok:CtrOk Try.prog Id' 51 C_rdq:=by
 intro us sub ps x sm h hp w e vs hM ha
 unfold C_rdq at h
 split at h
 ·rename_i cl ev a b Y
  simp only [Option.some.injEq,Prod.mk.injEq] at h
  obtain ⟨rfl,rfl,rfl⟩:=h
  have h0:=hp _ ((List.mem_cons_self ..))
  exact ctr_way (I:=Id') (fun (W0:World) (G:Nat→Prop)=>SyOk.mk2 Try.mixed dkHo_ok (FnsR.nil) (E_of_ok (by kernel_rfl) (EqsOk.nil))) rfl Try.func51 (by kernel_rfl) (fun W0 G=>LpsOk.cons (by kernel_rfl) (rdq_lp Y cl ev a b h0 _ rfl) (LpsOk.nil _)) (cs:=[]) (by kernel_rfl) (rdq_w0 Y cl ev a b h0) w e vs hM ha
 ·cases h
theorem R_rdq:RowOk Try.prog Id' hardD 51 (ctrF Id' C_rdq hardD):=ctrF_ok Try.call51 C_rdq_ok
end Go.Proofs.Ytdenmoiaiemokaa
