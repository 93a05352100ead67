/- JW J6. -/
import Derived.Test.YtiiekgcjilelpaaJ2p
import Derived.Test.YtiiekgcjilelpaaJ5p
open List renaming getElem?_eq_getElem → zaa, getElem?_eq_some_iff → zab, getD_eq_getElem?_getD → zaf, getElem?_cons_succ → zat, getElem?_cons_zero → zau
set_option linter.unusedSimpArgs false
set_option linter.unusedVariables false
namespace Go.Proofs.Ytiiekgcjilelpaa
open Go.RowKit
def tbE (L:List (List UInt8)) (i:Nat):List CD:=[.bs (L.getD i [])]
def wkO:Ob Td→Option (Ob Td)
 |.us (.ext (.tab (.bs L)))=>some (.us (.ext (.shr 1 L.length (tbE L))))
 |.us (.ext (.flat (.rw _ ks R)))=>(match ks with|[]=>none|_::_=>some (.us (.ext (.vw ks R))))
 |.us (.own l)=>some (.us (.byt l))
 |_=>none
def wkE (en:En Td):En Td:=match en.mu,wkO en.ob with
 |true,some o=>⟨o,false⟩
 |_,_=>en
def wkM:Mem Td→Mem Td
 |[]=>[]
 |en::r=>wkE en::wkM r
def kpE (en:En Td):Bool:=!en.mu||(match wkO en.ob with|some _=>true|none=>false)
def nwE (en:En Td):Bool:=match en.ob with
 |.dead=>true
 |.us (.ext (.flat _))=>en.mu
 |.us (.own _)=>en.mu
 |.blk _=>en.mu
 |.bx _=>en.mu
 |_=>false
def reW:Mem Td→Mem Td→Option (Mem Td)
 |[],[]=>some []
 |[],m::sm=>(match nwE m,reW [] sm with|true,some q=>some (m::q)|_,_=>none)
 |s::r,m::sm=>(match kpE s||nwE m,reW r sm with|true,some q=>some ((match kpE s with|true=>s|false=>m)::q)|_,_=>none)
 |_::_,[]=>none
def wkC (C:Ctr Td):Ctr Td:=fun us sub=>match C us (wkM sub) with
 |some (ps,x,sm)=>(match reW sub sm with|some q=>some (ps,x,q)|none=>none)
 |none=>none
theorem wkM_len:∀ m:Mem Td,(wkM m).length=m.length
 |[]=>rfl
 |_::r=>by simp [wkM,wkM_len r]
theorem wkM_get:∀ (m:Mem Td) (i:Nat),(wkM m)[i]? =m[i]?.map wkE
 |[],i=>by simp [wkM]
 |en::r,0=>by simp [wkM]
 |en::r,i+1=>by simp only [wkM,zat];exact wkM_get r i
theorem yjp (en:En Td):(wkE en=en∧(en.mu=true→kpE en=false))∨(en.mu=true∧∃ o,wkO en.ob=some o∧wkE en=⟨o,false⟩):=by
 obtain ⟨ob,mu⟩:=en
 cases mu with
 |false=>exact .inl ⟨rfl,fun h=>by cases h⟩
 |true=>
  cases ho:wkO ob with
  |none=>exact .inl ⟨by simp [wkE,ho],fun _=>by simp [kpE,ho]⟩
  |some o=>exact .inr ⟨rfl,o,by first|exact ho|rfl,by simp [wkE,ho]⟩
theorem wkO_inv {ob o:Ob Td} (h:wkO ob=some o):(∃ t k ks R,ob=.us (.ext (.flat (.rw t (k::ks) R)))∧o=.us (.ext (.vw (k::ks) R)))∨(∃ l,ob=.us (.own l)∧o=.us (.byt l))∨∃ L,ob=.us (.ext (.tab (.bs L)))∧o=.us (.ext (.shr 1 L.length (tbE L))):=by
 unfold wkO at h
 split at h
 ·simp only [Option.some.injEq] at h;exact .inr (.inr ⟨_,rfl,h.symm⟩)
 ·rename_i t ks R
  cases ks with
  |nil=>cases h
  |cons k ks=>simp only [Option.some.injEq] at h;exact .inl ⟨t,k,ks,R,rfl,h.symm⟩
 ·simp only [Option.some.injEq] at h;exact .inr (.inl ⟨_,rfl,h.symm⟩)
 ·cases h
theorem ylz:∀ {L:List (List UInt8)} {vals:List Value},vals.length=L.length→yc0 (TB.bs L).R vals=vals
 |[],[],_=>rfl
 |l::L,v::vals,h=>by
  have:=ylz (L:=L) (vals:=vals) (by simpa using h)
  show yc0 (([],l)::(TB.bs L).R) (v::vals)=_
  rw [yhi,this];rfl
 |[],_::_,h=>by simp at h
 |_::_,[],h=>by simp at h
theorem tab0_at {w:World} {u:Value} {L:List (List UInt8)} (h:yi7 (TB.bs L).t (TB.bs L).k (TB.bs L).R w u):∃ vals:List Value,vals.length=L.length∧Rs w 1 u L.length vals∧∀ (i:Nat) (v:Value),vals[i]? =some v→Bs w v (L.getD i []):=by
 obtain ⟨_,_,vals,hl,⟨B,_,ho⟩,hr⟩:=h
 have hR:(TB.bs L).R.length=L.length:=by simp [TB.R]
 rw [hR] at hl
 refine ⟨vals,hl,?_,fun i v hv=>?_⟩
 ·have:=Rs.of_owns ho
  rw [ylz hl,hR] at this
  exact this
 ·have hi:i<L.length:=by rw [← hl];exact (zab.1 hv).1
  have:=(hr i v ([],L.getD i []) hv (by simp [TB.R,zaf,zaa hi])).1
  exact this
theorem wkO_holds {e:Env} {w:World} {u:Value} {m m':Bool} {ob o:Ob Td} (h:wkO ob=some o) (hh:Holds Id' e w u m ob):Holds Id' e w u m' o:=by
 rcases wkO_inv h with ⟨t,k,ks,R,rfl,rfl⟩|⟨l,rfl,rfl⟩|⟨L,rfl,rfl⟩
 ·obtain ⟨_,B,_,ho⟩:=hh
  have:=Rs.of_owns ho
  simp only [FL.len] at this
  exact ⟨by simp,this⟩
 ·obtain ⟨B,_,ho⟩:=hh
  exact Rs.of_owns ho
 ·obtain ⟨vals,hl,hR,hv⟩:=tab0_at hh
  refine ⟨by decide,vals,hR,fun i j c v hi hj hc hcv=>?_⟩
  obtain rfl:j=0:=by omega
  simp only [tbE,zau,Option.some.injEq] at hc
  subst hc
  exact hv i v (by simpa using hcv)
theorem wkO_foot {w:World} {u:Value} {ob o:Ob Td} (h:wkO ob=some o) {k:Nat} (hk:Foot Id' w u o k):Foot Id' w u ob k:=by
 rcases wkO_inv h with ⟨t,k',ks,R,rfl,rfl⟩|⟨l,rfl,rfl⟩|⟨L,rfl,rfl⟩
 ·exact hk.2
 ·exact hk.2
 ·rcases hk with hk|⟨i,j,c,v,hi,hj,hc,hf,⟨a,n,cap,hu,hcl⟩,hv⟩
  ·exact .inl hk.2
  ·obtain rfl:j=0:=by omega
   simp only [tbE,zau,Option.some.injEq] at hc
   subst hc
   refine .inr ⟨i,([],L.getD i []),v,?_,hf,⟨a,n,cap,hu,?_⟩,hv⟩
   ·simp [TB.R,zaf,zaa hi]
   ·have e:i * 1+0=i * (0+1)+0:=by omega
    rw [e] at hcl
    exact hcl
theorem ys9 {en:En Td} {w:World} {u:Value} {k:Nat} (h:Foot Id' w u (wkE en).ob k):Foot Id' w u en.ob k:=by
 rcases yjp en with ⟨he,_⟩|⟨_,o,ho,he⟩
 ·rw [he] at h;exact h
 ·rw [he] at h;exact wkO_foot ho h
theorem wkE_mu {en:En Td} (h:(wkE en).mu=true):wkE en=en∧en.mu=true∧kpE en=false:=by
 rcases yjp en with ⟨he,hk⟩|⟨_,o,ho,he⟩
 ·rw [he] at h;exact ⟨he,h,hk h⟩
 ·rw [he] at h;cases h
theorem yh1 {mem:Mem Td} {i:Nat} {n:En Td} (h:(wkM mem)[i]? =some n):∃ en,mem[i]? =some en∧n=wkE en:=by
 rw [wkM_get] at h
 cases hm:mem[i]? with
 |none=>rw [hm] at h;cases h
 |some en=>rw [hm] at h;simp only [Option.map_some,Option.some.injEq] at h;exact ⟨en,rfl,h.symm⟩
theorem nwE_own {en:En Td} (h:nwE en=true) {w:World} {u:Value} {k:Nat} (hk:Foot Id' w u en.ob k):en.mu=true∧Own Id' w u en.ob k:=by
 obtain ⟨ob,mu⟩:=en
 unfold nwE at h
 split at h
 ·rename_i hb;dsimp only at hb hk;rw [hb] at hk;cases hk
 ·rename_i hb;dsimp only at hb hk h ⊢;rw [hb] at hk ⊢;exact ⟨h,hk⟩
 ·rename_i hb;dsimp only at hb hk h ⊢;rw [hb] at hk ⊢;exact ⟨h,hk⟩
 ·rename_i hb;dsimp only at hb hk h ⊢;rw [hb] at hk ⊢;exact ⟨h,hk⟩
 ·rename_i hb;dsimp only at hb hk h ⊢;rw [hb] at hk ⊢;exact ⟨h,hk⟩
 ·cases h
theorem yrs:∀ {sub sm q:Mem Td},reW sub sm=some q→q.length=sm.length∧sub.length≤sm.length∧∀ (i:Nat) (n:En Td),q[i]? =some n→(sub[i]? =some n∧kpE n=true)∨(sm[i]? =some n∧nwE n=true)
 |[],[],q,h=>by
  simp only [reW,Option.some.injEq] at h
  subst h
  exact ⟨rfl,Nat.le_refl _,fun i n h=>by simp at h⟩
 |[],m::sm,q,h=>by
  unfold reW at h
  split at h
  ·rename_i q' h1 h2
   simp only [Option.some.injEq] at h
   subst h
   obtain ⟨g1,g2,g3⟩:=yrs h2
   refine ⟨by simp [g1],by simp,fun i n hn=>?_⟩
   cases i with
   |zero=>simp only [zau,Option.some.injEq] at hn;subst hn;exact .inr ⟨rfl,h1⟩
   |succ i=>
    rw [zat] at hn
    rcases g3 i n hn with ⟨h5,_⟩|h5
    ·simp at h5
    ·exact .inr h5
  ·cases h
 |s::r,m::sm,q,h=>by
  unfold reW at h
  split at h
  ·rename_i q' h1 h2
   simp only [Option.some.injEq] at h
   subst h
   obtain ⟨g1,g2,g3⟩:=yrs h2
   refine ⟨by simp [g1],by simp only [List.length_cons];omega,fun i n hn=>?_⟩
   cases i with
   |zero=>
    simp only [zau,Option.some.injEq] at hn
    subst hn
    cases hk:kpE s with
    |true=>exact .inl ⟨rfl,hk⟩
    |false=>rw [hk] at h1;exact .inr ⟨rfl,by simpa using h1⟩
   |succ i=>
    rw [zat] at hn
    exact g3 i n hn
  ·cases h
 |_::_,[],q,h=>by simp [reW] at h
theorem wkC_ok {P:Program} {f:FuncId} {C:Ctr Td} (hC:CtrOk P Id' f C):CtrOk P Id' f (wkC C):=by
 intro us sub ps x q h hp w e vs hM ha
 unfold wkC at h
 split at h
 ·rename_i ps' x' sm h1
  split at h
  ·rename_i q' h2
   simp only [Option.some.injEq,Prod.mk.injEq] at h
   obtain ⟨rfl,rfl,rfl⟩:=h
   have hO:∀ k,OwnOf Id' w e (wkM sub) k→OwnOf Id' w e sub k:=fun k ⟨i,u,n,hu,hn,hmu,hk⟩=>by
    obtain ⟨en,g1,rfl⟩:=yh1 hn
    obtain ⟨g2,g3,_⟩:=wkE_mu hmu
    rw [g2] at hk
    exact ⟨i,u,en,hu,g1,g3,hk⟩
   have hF:∀ k,ybc Id' w e (wkM sub) (2 * k)→OwnOf Id' w e (wkM sub) k:=fun k hk=>by
    rcases hk with ⟨_,hk⟩|⟨hk,_⟩
    ·rw [show 2 * k / 2=k by omega] at hk;exact hk
    ·omega
   have hE:∀ k,OwnOf Id' w e sub k→ybc Id' w e sub (2 * k):=fun k hk=>.inl ⟨by omega,by rw [show 2 * k / 2=k by omega];exact hk⟩
   have hR:∀ k,ReadOf Id' w e sub k→¬ ybc Id' w e sub (2 * k+1):=fun k hk hk'=>by
    rcases hk' with ⟨h,_⟩|⟨_,h⟩
    ·omega
    ·rw [show (2 * k+1) / 2=k by omega] at h;exact h hk
   have hs:MemOk w (ybc Id' w e (wkM sub)) Id' w e (wkM sub):=by
    refine ⟨by rw [wkM_len];exact hM.len,fun i u n hu hn=>?_,fun i u n hu hn k hk=>?_,fun i u n hu hn hmu k hk=>?_,fun i j u v n m hu hn hmu hv hm hij k hk1 hk2=>?_,Mod.refl _ _,fun i u n hu hn k hk=>.inr fun hg=>?_⟩
    ·obtain ⟨en,g1,rfl⟩:=yh1 hn
     have hh:=hM.holds i u en hu g1
     rcases yjp en with ⟨he,_⟩|⟨_,o,ho,he⟩
     ·rw [he];exact hh
     ·rw [he];exact wkO_holds ho hh
    ·obtain ⟨en,g1,rfl⟩:=yh1 hn
     exact hM.lt i u en hu g1 k (ys9 hk)
    ·exact .inr (.inl ⟨by omega,by rw [show 2 * k / 2=k by omega];exact ⟨i,u,n,hu,hn,hmu,hk⟩⟩)
    ·obtain ⟨en,g1,rfl⟩:=yh1 hn
     obtain ⟨em,g2,rfl⟩:=yh1 hm
     obtain ⟨g3,g4,_⟩:=wkE_mu hmu
     rw [g3] at hk1
     exact hM.sep i j u v en em hu g1 g4 hv g2 hij k hk1 (ys9 hk2)
    ·rcases hg with ⟨h,_⟩|⟨_,h⟩
     ·omega
     ·rw [show (2 * k+1) / 2=k by omega] at h;exact h ⟨i,u,n,hu,hn,hk⟩
   refine (hC us (wkM sub) ps' x' sm h1 hp w e vs hs ha).mono fun y w' ⟨v,e',hy,hg,hx,hM'⟩=>⟨v,e',hy,hg,hx,?_⟩
   obtain ⟨q1,q2,q3⟩:=yrs h2
   -- what is kept is not turned
   have kept:∀ (i:Nat) (n:En Td) (u:Value),sub[i]? =some n→kpE n=true→e[i]? =some u→(∀ k,Foot Id' w u n.ob k→¬ OwnOf Id' w e (wkM sub) k)∧Holds Id' e' w' u n.mu n.ob∧(∀ k,Foot Id' w' u n.ob k→Foot Id' w u n.ob k)∧∀ k,Own Id' w' u n.ob k→Own Id' w u n.ob k:=fun i n u hn hk hu=>by
    have hno:∀ k,Foot Id' w u n.ob k→¬ OwnOf Id' w e (wkM sub) k:=fun k hk1 ⟨j,v,m,hv,hm,hmu,hk2⟩=>by
     obtain ⟨em,g1,rfl⟩:=yh1 hm
     obtain ⟨g2,g3,g4⟩:=wkE_mu hmu
     rw [g2] at hk2
     refine hM.sep j i v u em n hv g1 g3 hu hn (fun hij=>?_) k hk2 hk1
     subst hij
     rw [hn] at g1
     cases g1
     rw [hk] at g4;cases g4
    have hh:=hM.holds i u n hu hn
    have hst:=hh.stay hM'.mod (fun k hk1 hk2=>hno k hk1 (hF k hk2))
    exact ⟨hno,hst.1.mono hg,hst.2,hh.stayO hM'.mod (fun k hk1 hk2=>hno k hk1 (hF k hk2))⟩
   have old:∀ (i:Nat) (u:Value) (n:En Td),sub[i]? =some n→e'[i]? =some u→e[i]? =some u:=fun i u n hn hu=>by
    have hlt:i<e.length:=by rw [hM.len];exact (zab.1 hn).1
    have:=hg i _ (zaa hlt)
    rw [hu] at this
    cases this
    exact zaa hlt
   have fresh:∀ (i:Nat) (u:Value) (n:En Td),sm[i]? =some n→nwE n=true→e'[i]? =some u→∀ k,Foot Id' w' u n.ob k→w.heap.size≤k∨OwnOf Id' w e (wkM sub) k:=fun i u n hn hw hu k hk=>by
    obtain ⟨g1,g2⟩:=nwE_own hw hk
    rcases hM'.own i u n hu hn g1 k g2 with h|h
    ·exact .inl h
    ·exact .inr (hF k h)
   have apart:∀ (i j:Nat) (u v:Value) (n m:En Td),sub[i]? =some n→kpE n=true→e'[i]? =some u→sm[j]? =some m→nwE m=true→e'[j]? =some v→∀ k,Foot Id' w' u n.ob k→¬ Foot Id' w' v m.ob k:=fun i j u v n m hn hkn hu hm hwm hv k hk1 hk2=>by
    have hu0:=old i u n hn hu
    obtain ⟨g1,_,g3,_⟩:=kept i n u hn hkn hu0
    rcases fresh j v m hm hwm hv k hk2 with h|h
    ·have:=hM.lt i u n hu0 hn k (g3 k hk1);omega
    ·exact g1 k (g3 k hk1) h
   refine ⟨by rw [q1];exact hM'.len,fun i u n hu hn=>?_,fun i u n hu hn k hk=>?_,fun i u n hu hn hmu k hk=>?_,fun i j u v n m hu hn hmu hv hm hij k hk1 hk2=>?_,hM'.mod.mono fun k _ hk=>hE k (hO k (hF k hk)),fun i u n hu hn k hk=>?_⟩
   ·rcases q3 i n hn with ⟨h,hk⟩|⟨h,hk⟩
    ·exact (kept i n u h hk (old i u n h hu)).2.1
    ·exact hM'.holds i u n hu h
   ·rcases q3 i n hn with ⟨h,hk'⟩|⟨h,hk'⟩
    ·have hu0:=old i u n h hu
     have:=hM.lt i u n hu0 h k ((kept i n u h hk' hu0).2.2.1 k hk)
     exact Nat.lt_of_lt_of_le this hM'.mod.size
    ·exact hM'.lt i u n hu h k hk
   ·rcases q3 i n hn with ⟨h,hk'⟩|⟨h,hk'⟩
    ·have hu0:=old i u n h hu
     exact .inr (hE k ⟨i,u,n,hu0,h,hmu,(kept i n u h hk' hu0).2.2.2 k hk⟩)
    ·rcases fresh i u n h hk' hu k hk.foot with g|g
     ·exact .inl g
     ·exact .inr (hE k (hO k g))
   ·rcases q3 i n hn with ⟨h,hkn⟩|⟨h,hkn⟩<;>rcases q3 j m hm with ⟨g,hkm⟩|⟨g,hkm⟩
    ·have hu0:=old i u n h hu
     have hv0:=old j v m g hv
     exact hM.sep i j u v n m hu0 h hmu hv0 g hij k ((kept i n u h hkn hu0).2.2.2 k hk1) ((kept j m v g hkm hv0).2.2.1 k hk2)
    ·exact apart i j u v n m h hkn hu g hkm hv k hk1.foot hk2
    ·exact apart j i v u m n g hkm hv h hkn hu k hk2 hk1.foot
    ·exact hM'.sep i j u v n m hu h hmu hv g hij k hk1 hk2
   ·rcases q3 i n hn with ⟨h,hk'⟩|⟨h,hk'⟩
    ·have hu0:=old i u n h hu
     exact .inr (hR k ⟨i,u,n,hu0,h,(kept i n u h hk' hu0).2.2.1 k hk⟩)
    ·rcases fresh i u n h hk' hu k hk with g|g
     ·exact .inl g
     ·obtain ⟨i',u',n',a1,a2,_,a4⟩:=hO k g
      exact .inr (hR k ⟨i',u',n',a1,a2,a4.foot⟩)
  ·cases h
 ·cases h
def ytl (P:Program) (f_rBodyR f_rFile f_rInt:Func):Nat×Fn2 Td:=(141,ctrF Id' (ydr (⟨P,[rFile P f_rFile f_rInt],[],dkHo,Id'.one,60⟩:Sy Td) [] f_rBodyR [true]) yaj)
theorem yo7:RowOk Try.prog Id' yaj (ytl Try.prog Try.f141 Try.f215 Try.f213).1 (ytl Try.prog Try.f141 Try.f215 Try.f213).2:=ybh (fun (W0:World) (G:Nat→Prop)=>SyOk.mk2 Try.mixed yal (FnsR.cons (rFile_ok) (FnsR.nil)) EqsOk.nil) rfl Try.func141 (by kernel_rfl) (fun _ _=>LpsOk.nil _) [true] Try.call141
def C_decBig:Ctr Td:=fun us sub=>match us,sub with
 |[.one (.obj 0)],[⟨.us (.byt l),false⟩]=>some ([decide ((l.length:Int)>2048)=true],.tup [.agg [.v (.int .i64 0),.v (.int .i64 0),.v (.int .u64 0),.v (.int .u64 0),.v (.int .u64 0),.v (.int .i64 0),.v (.int .i64 0),.v (.int .i64 0),.v (.int .i64 0),.v (.int .i64 0),.v (.int .i64 0),.v (.string ⟨#[]⟩),.v (.string ⟨#[]⟩),.v (.int .i64 0),.v (.int .i64 0),.v (.string ⟨#[]⟩),.v (.int .u64 0),.v (.slice none 0 0)],.one (.v (.int .i64 5))],[⟨.us (.byt l),false⟩])
 |_,_=>none
set_option maxRecDepth 100000 in
theorem decR_w0 (l:List UInt8) (h0:decide ((l.length:Int)>2048)=false) (h1:l.length≤100000) (h2:(hTy (RS.new l)==3)=true) (h3:(Mm.checkI (⟨(hTy (RS.new l)),(hCl (RS.new l)),(hSs (RS.new l)),(hSq (RS.new l)),(hBo (RS.new l)),(hKd (RS.new l)),(hEr (RS.new l)),(IntKind.i64.wrap ((hdR (RS.new l)).num 6:Int)),(IntKind.i64.wrap (((hdR (RS.new l)).get 6).num 31:Int)),0,0,⟨#[]⟩,⟨#[]⟩,0,0,⟨#[]⟩,0,ents []⟩:Mm.Msg) != 0)=false) (h4:(0:Int)≤(hSs (RS.new l))∧(hSs (RS.new l))<18446744073709551616) (h5:(0:Int)≤(hSq (RS.new l))∧(hSq (RS.new l))<18446744073709551616) (h6:(0:Int)≤(hBo (RS.new l))∧(hBo (RS.new l))<18446744073709551616) (h7:(endI (((hdR (RS.new l)).get 6).get 31).l (((hdR (RS.new l)).get 6).get 31).at' (((hdR (RS.new l)).get 6).get 31).err != 0||(fiW (hdW (hTy (RS.new l)) (hCl (RS.new l)) (hSs (RS.new l)) (hSq (RS.new l)) (hBo (RS.new l)) (hKd (RS.new l)) (hEr (RS.new l))) (IntKind.i64.wrap ((hdR (RS.new l)).num 6:Int)) (IntKind.i64.wrap (((hdR (RS.new l)).get 6).num 31:Int))).err != 0||!decide (l=(fiW (hdW (hTy (RS.new l)) (hCl (RS.new l)) (hSs (RS.new l)) (hSq (RS.new l)) (hBo (RS.new l)) (hKd (RS.new l)) (hEr (RS.new l))) (IntKind.i64.wrap ((hdR (RS.new l)).num 6:Int)) (IntKind.i64.wrap (((hdR (RS.new l)).get 6).num 31:Int))).out))=false):∃ qs,wayO Id' ([⟨.us (.byt l),false⟩]:Mem Td).length [⟨.us (.byt l),false⟩] (.tup [.agg [.v (.int .i64 (hTy (RS.new l))),.v (.int .i64 (hCl (RS.new l))),.v (.int .u64 (hSs (RS.new l))),.v (.int .u64 (hSq (RS.new l))),.v (.int .u64 (hBo (RS.new l))),.v (.int .i64 (hKd (RS.new l))),.v (.int .i64 (hEr (RS.new l))),.v (.int .i64 (IntKind.i64.wrap ((hdR (RS.new l)).num 6:Int))),.v (.int .i64 (IntKind.i64.wrap (((hdR (RS.new l)).get 6).num 31:Int))),.v (.int .i64 0),.v (.int .i64 0),.v (.string ⟨#[]⟩),.v (.string ⟨#[]⟩),.v (.int .i64 0),.v (.int .i64 0),.v (.string ⟨#[]⟩),.v (.int .u64 0),.v (.slice none 0 0)],.one (.v (.int .i64 0))]) ((ybu (⟨Try.prog,[(yu2 (hx:=yag):Nat×Fn2 Td),(yuy:Nat×Fn2 Td),(yoh:Nat×Fn2 Td),(140,ctrF Id' C_rhN yaj),(ytl Try.prog Try.f141 Try.f215 Try.f213),(34,ctrF Id' ymv yaj)],[],dkHo,Id'.one,60⟩:Sy Td) [(100005,mapG (yg7 toBx 2) (⟨Try.prog,[(yu2 (hx:=yag):Nat×Fn2 Td),(yuy:Nat×Fn2 Td),(yoh:Nat×Fn2 Td),(140,ctrF Id' C_rhN yaj),(ytl Try.prog Try.f141 Try.f215 Try.f213),(34,ctrF Id' ymv yaj)],[],dkHo,Id'.one,60⟩:Sy Td) 40 (regO 5 (yat Try.f38)) (drwR 5 (yat Try.f38)))] Try.f38 [.one (.obj 0)] [⟨.us (.byt l),false⟩]).al [false,false])=some qs∧∀ q∈qs,q:=
 ⟨[decide ((↑l.length:Int)>(2048:Int))=false,l.length≤(100000:Nat),(hTy (RS.new l)==(3:Int))=true,∀ (w:World) (u:Value) (k:Nat),Id'.foot (Th.rd ((hdR (RS.new l)).get (6:Int))) w u k→Id'.own (Th.rd ((hdR (RS.new l)).get (6:Int))) w u k,∀ (w:World) (u:Value) (k:Nat),Id'.foot (Th.rd (((hdR (RS.new l)).get (6:Int)).get (31:Int))) w u k→Id'.own (Th.rd (((hdR (RS.new l)).get (6:Int)).get (31:Int))) w u k,(Mm.checkI (Mm.Msg.mk (hTy (RS.new l)) (hCl (RS.new l)) (hSs (RS.new l)) (hSq (RS.new l)) (hBo (RS.new l)) (hKd (RS.new l)) (hEr (RS.new l)) (IntKind.i64.wrap (↑((hdR (RS.new l)).num (6:Int)):Int)) (IntKind.i64.wrap (↑(((hdR (RS.new l)).get (6:Int)).num (31:Int)):Int)) (0:Int) (0:Int) (ByteArray.mk #[]) (ByteArray.mk #[]) (0:Int) (0:Int) (ByteArray.mk #[]) (0:Int) (ents [])) != (0:Int))=false,(0:Int)≤hSs (RS.new l)∧hSs (RS.new l)<(18446744073709551616:Int),(0:Int)≤hSq (RS.new l)∧hSq (RS.new l)<(18446744073709551616:Int),(0:Int)≤hBo (RS.new l)∧hBo (RS.new l)<(18446744073709551616:Int),(hTy (RS.new l)==(3:Int))=true,(endI (((hdR (RS.new l)).get (6:Int)).get (31:Int)).l (((hdR (RS.new l)).get (6:Int)).get (31:Int)).at' (((hdR (RS.new l)).get (6:Int)).get (31:Int)).err != (0:Int)||(fiW (hdW (hTy (RS.new l)) (hCl (RS.new l)) (hSs (RS.new l)) (hSq (RS.new l)) (hBo (RS.new l)) (hKd (RS.new l)) (hEr (RS.new l))) (IntKind.i64.wrap (↑((hdR (RS.new l)).num (6:Int)):Int)) (IntKind.i64.wrap (↑(((hdR (RS.new l)).get (6:Int)).num (31:Int)):Int))).err != (0:Int)||!decide (l=(fiW (hdW (hTy (RS.new l)) (hCl (RS.new l)) (hSs (RS.new l)) (hSq (RS.new l)) (hBo (RS.new l)) (hKd (RS.new l)) (hEr (RS.new l))) (IntKind.i64.wrap (↑((hdR (RS.new l)).num (6:Int)):Int)) (IntKind.i64.wrap (↑(((hdR (RS.new l)).get (6:Int)).num (31:Int)):Int))).out))=false,(Th.byt l:Td)=Th.byt l,Value.int IntKind.i64 (hTy (RS.new l))=Value.int IntKind.i64 (hTy (RS.new l)),Value.int IntKind.i64 (hCl (RS.new l))=Value.int IntKind.i64 (hCl (RS.new l)),Value.int IntKind.u64 (hSs (RS.new l))=Value.int IntKind.u64 (hSs (RS.new l)),Value.int IntKind.u64 (hSq (RS.new l))=Value.int IntKind.u64 (hSq (RS.new l)),Value.int IntKind.u64 (hBo (RS.new l))=Value.int IntKind.u64 (hBo (RS.new l)),Value.int IntKind.i64 (hKd (RS.new l))=Value.int IntKind.i64 (hKd (RS.new l)),Value.int IntKind.i64 (hEr (RS.new l))=Value.int IntKind.i64 (hEr (RS.new l)),Value.int IntKind.i64 (IntKind.i64.wrap (↑((hdR (RS.new l)).num (6:Int)):Int))=Value.int IntKind.i64 (IntKind.i64.wrap (↑((hdR (RS.new l)).num (6:Int)):Int)),Value.int IntKind.i64 (IntKind.i64.wrap (↑(((hdR (RS.new l)).get (6:Int)).num (31:Int)):Int))=Value.int IntKind.i64 (IntKind.i64.wrap (↑(((hdR (RS.new l)).get (6:Int)).num (31:Int)):Int)),Value.int IntKind.i64 (Int.ofNat 0)=Value.int IntKind.i64 (Int.ofNat 0),Value.int IntKind.i64 (Int.ofNat 0)=Value.int IntKind.i64 (Int.ofNat 0),Value.string (ByteArray.mk #[])=Value.string (ByteArray.mk #[]),Value.string (ByteArray.mk #[])=Value.string (ByteArray.mk #[]),Value.int IntKind.i64 (Int.ofNat 0)=Value.int IntKind.i64 (Int.ofNat 0),Value.int IntKind.i64 (Int.ofNat 0)=Value.int IntKind.i64 (Int.ofNat 0),Value.string (ByteArray.mk #[])=Value.string (ByteArray.mk #[]),Value.int IntKind.u64 (Int.ofNat 0)=Value.int IntKind.u64 (Int.ofNat 0),Value.slice none 0 0=Value.slice none 0 0,Value.int IntKind.i64 (Int.ofNat 0)=Value.int IntKind.i64 (Int.ofNat 0)],by kernel_rfl,(by repeat' first|exact mnil|refine yaa ?_ ?_| (with_reducible assumption)|(with_reducible rfl)|rfl|exact h0|exact h1|exact h2|exact h3|exact h4|exact h5|exact h6|exact h7|trivial|(exact ya1 _)|(exact fun w u k h=>h)|(exact Nat.le_trans h0 (by decide)))⟩
def yvc:Ctr Td:=fun us sub=>match us,sub with
 |[.one (.obj 0)],[⟨.us (.byt l),false⟩]=>some ([decide ((l.length:Int)>2048)=false,l.length≤100000,(hTy (RS.new l)==3)=true,(Mm.checkI (⟨(hTy (RS.new l)),(hCl (RS.new l)),(hSs (RS.new l)),(hSq (RS.new l)),(hBo (RS.new l)),(hKd (RS.new l)),(hEr (RS.new l)),(IntKind.i64.wrap ((hdR (RS.new l)).num 6:Int)),(IntKind.i64.wrap (((hdR (RS.new l)).get 6).num 31:Int)),0,0,⟨#[]⟩,⟨#[]⟩,0,0,⟨#[]⟩,0,ents []⟩:Mm.Msg) != 0)=false,(0:Int)≤(hSs (RS.new l))∧(hSs (RS.new l))<18446744073709551616,(0:Int)≤(hSq (RS.new l))∧(hSq (RS.new l))<18446744073709551616,(0:Int)≤(hBo (RS.new l))∧(hBo (RS.new l))<18446744073709551616,(endI (((hdR (RS.new l)).get 6).get 31).l (((hdR (RS.new l)).get 6).get 31).at' (((hdR (RS.new l)).get 6).get 31).err != 0||(fiW (hdW (hTy (RS.new l)) (hCl (RS.new l)) (hSs (RS.new l)) (hSq (RS.new l)) (hBo (RS.new l)) (hKd (RS.new l)) (hEr (RS.new l))) (IntKind.i64.wrap ((hdR (RS.new l)).num 6:Int)) (IntKind.i64.wrap (((hdR (RS.new l)).get 6).num 31:Int))).err != 0||!decide (l=(fiW (hdW (hTy (RS.new l)) (hCl (RS.new l)) (hSs (RS.new l)) (hSq (RS.new l)) (hBo (RS.new l)) (hKd (RS.new l)) (hEr (RS.new l))) (IntKind.i64.wrap ((hdR (RS.new l)).num 6:Int)) (IntKind.i64.wrap (((hdR (RS.new l)).get 6).num 31:Int))).out))=false],.tup [.agg [.v (.int .i64 (hTy (RS.new l))),.v (.int .i64 (hCl (RS.new l))),.v (.int .u64 (hSs (RS.new l))),.v (.int .u64 (hSq (RS.new l))),.v (.int .u64 (hBo (RS.new l))),.v (.int .i64 (hKd (RS.new l))),.v (.int .i64 (hEr (RS.new l))),.v (.int .i64 (IntKind.i64.wrap ((hdR (RS.new l)).num 6:Int))),.v (.int .i64 (IntKind.i64.wrap (((hdR (RS.new l)).get 6).num 31:Int))),.v (.int .i64 0),.v (.int .i64 0),.v (.string ⟨#[]⟩),.v (.string ⟨#[]⟩),.v (.int .i64 0),.v (.int .i64 0),.v (.string ⟨#[]⟩),.v (.int .u64 0),.v (.slice none 0 0)],.one (.v (.int .i64 0))],[⟨.us (.byt l),false⟩])
 |_,_=>none
set_option maxRecDepth 100000 in
theorem C_decR_ok:CtrOk Try.prog Id' 38 yvc:=by
 intro us sub ps x sm h hp w e vs hM ha
 unfold yvc at h
 split at h
 ·rename_i l
  simp only [Option.some.injEq,Prod.mk.injEq] at h
  obtain ⟨rfl,rfl,rfl⟩:=h
  have h0:=hp _ (ma 0 rfl)
  have h1:=hp _ (ma 1 rfl)
  have h2:=hp _ (ma 2 rfl)
  have h3:=hp _ (ma 3 rfl)
  have h4:=hp _ (ma 4 rfl)
  have h5:=hp _ (ma 5 rfl)
  have h6:=hp _ (ma 6 rfl)
  have h7:=hp _ (ma 7 rfl)
  exact ya6 (I:=Id') (fun (W0:World) (G:Nat→Prop)=>SyOk.mk2 Try.mixed yal (FnsR.cons (yqs (J:=dkI) (hx:=yag)) (FnsR.cons (yqq (J:=dkI) (hx:=yag)) (FnsR.cons (ymr (J:=dkI) (hx:=yag)) (FnsR.cons (R_rhN) (FnsR.cons (yo7) (FnsR.cons (R_encR) (FnsR.nil))))))) EqsOk.nil) rfl Try.func38 (by kernel_rfl) (fun W0 G=>LpsOk.cons (by kernel_rfl) (ygo (id:=5) ((fun (W0:World) (G:Nat→Prop)=>SyOk.mk2 Try.mixed yal (FnsR.cons (yqs (J:=dkI) (hx:=yag)) (FnsR.cons (yqq (J:=dkI) (hx:=yag)) (FnsR.cons (ymr (J:=dkI) (hx:=yag)) (FnsR.cons (R_rhN) (FnsR.cons (yo7) (FnsR.cons (R_encR) (FnsR.nil))))))) EqsOk.nil) W0 G) rfl (fun w e mem h=>bx_ok (W0:=W0) (G:=G) 2 w e mem h)) (LpsOk.nil _)) (cs:=[false,false]) (by kernel_rfl) (decR_w0 l h0 h1 h2 h3 h4 h5 h6 h7) w e vs hM ha
 ·cases h
theorem RW_decR:RowOk Try.prog Id' yaj 38 (ctrF Id' (wkC yvc) yaj):=ydi Try.call38 (wkC_ok C_decR_ok)
end Go.Proofs.Ytiiekgcjilelpaa
