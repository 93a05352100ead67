/- H3. -/
import Derived.Test.YtiiekgcjilelpaaH2p
import Derived.Test.YtiiekgcjilelpaaV0p
open List renaming getElem?_eq_getElem → zaa, getElem?_eq_some_iff → zab, getElem?_append_right → zac, getElem?_append_left → zad, length_append → zae, getD_eq_getElem?_getD → zaf, getElem?_take → zai, mem_of_getElem? → zaj, mem_cons_self → zal, getElem?_map → zan, getElem?_drop → zap, getElem?_eq_none → zas, getElem?_cons_zero → zau, length_cons → zax, getElem_of_mem → zaz
open Nat renaming le_refl → zbm, zero_add → zbo
open Bool renaming and_eq_true → zbs, or_eq_true → zbt
set_option linter.unusedSimpArgs false
set_option linter.unusedVariables false
namespace Go.Proofs.Ytiiekgcjilelpaa
open Go.RowKit
section
variable {W0:World} {G:Nat→Prop} {w w':World} {e:Env} {mem:Mem Td}
def bigN (t:TypeId):Option Nat:=match eqb t 251 with
 |true=>some 128
 |false=>(match eqb t 253 with
  |true=>some 129
  |false=>none)
def cellT (t:TypeId):Bool:=eqb t 3||(eqb t 5||(eqb t 4||eqb t 59))
def secV (l:List UInt8):Value:=.agg (l.map bv).toArray
def penV (at':Int) (l:List UInt8):Value:=.agg (.int .i64 at'::l.map bv).toArray
theorem yle {t n:Nat} (h:bigN t=some n) {b k:Nat} {cs:List Value} (hc:w.rangeAt b k cs) (hl:cs.length=n):(loadVar t ⟨b,k,none⟩).run Try.prog w=.ok (.agg cs.toArray) w:=by
 unfold bigN at h
 split at h
 ·rename_i he
  obtain rfl:=eqb_eq.1 he
  cases h
  exact run_loadVar_mid w b k _ cs _ hc Try.underlying251 rfl (by rw [hl];kernel_rfl)
 ·split at h
  ·rename_i he
   obtain rfl:=eqb_eq.1 he
   cases h
   exact run_loadVar_mid w b k _ cs _ hc Try.underlying253 rfl (by rw [hl];kernel_rfl)
  ·cases h
theorem ydx {t:Nat} (h:cellT t=true) {b k:Nat} {x:Value} (hc:w.cell? ⟨b,k,none⟩=some x):(loadVar t ⟨b,k,none⟩).run Try.prog w=.ok x w:=by
 have key:yfr Try.prog t [PV.v x] 0=some (.one (.v x)):=by
  unfold cellT at h
  rw [zbt,zbt,zbt] at h
  rcases h with h|h|h|h
  ·obtain rfl:=eqb_eq.1 h;kernel_rfl
  ·obtain rfl:=eqb_eq.1 h;kernel_rfl
  ·obtain rfl:=eqb_eq.1 h;kernel_rfl
  ·obtain rfl:=eqb_eq.1 h;kernel_rfl
 obtain ⟨u,h1,h2⟩:=ydl (e:=[]) (w:=w) key (b:=b) (o:=k) (fun j p hj=>by
  match j,hj with
  |0,hj=>simp at hj;subst hj;exact ⟨x,hc,rfl⟩
  |j+1,hj=>simp at hj)
 have:u=x:=h2
 subst this
 exact h1
theorem ybw {o:Oper} {ρ:Operand→Value} {t:TypeId} {x:Operand} {a:Addr} {v:Value} (ho:o.op=.load t x) (hx:ρ x=.pointer (some a)) (hr:(loadVar t a).run Try.prog w=.ok v w):(execOp ρ o).run Try.prog w=.ok (.value v) w:=by
 unfold execOp
 simp only [ho,hx,Instr.loadAt,Instr.sureAddr,Sem.run_bind,Sem.run_pure,Result.andThen_ok,hr]
theorem run_store {o:Oper} {ρ:Operand→Value} {t:TypeId} {x y:Operand} {a:Addr} (ho:o.op=.store t x y) (hx:ρ x=.pointer (some a)) (hr:(storeVar t a (ρ y)).run Try.prog w=.ok () w'):(execOp ρ o).run Try.prog w=.ok .skip w':=by
 unfold execOp
 simp only [ho,hx,Instr.storeAt,Instr.sureAddr,Sem.run_bind,Sem.run_pure,Result.andThen_ok,hr]
def hdI:List Value→Int
 |.int _ n::_=>n
 |_=>0
def FL.el:FL→Nat→Value
 |.secs L,i=>secV (L.getD i [])
 |.pens Q,i=>penV (Q.getD i (0,[])).1 (Q.getD i (0,[])).2
 |.rw _ ks R,i=>.agg (rwV ks (R.getD i Rw.zero)).toArray
theorem FL.el_agg (x:FL) {i:Nat} (hi:i<x.R.length):x.el i=.agg (x.R.getD i []).toArray:=by
 rw [x.len] at hi
 cases x with
 |secs L=>
  have hi:i<L.length:=hi
  simp [FL.el,FL.R,secV,zaf,hi]
 |pens Q=>
  have hi:i<Q.length:=hi
  simp [FL.el,FL.R,penV,zaf,hi]
 |rw t ks R=>
  have hi:i<R.length:=hi
  simp [FL.el,FL.R,zaf,hi]
def yca:List CD→Nat→List PV×Mem Td
 |[],_=>([],[])
 |.v x::r,k=>(match yca r k with|(ps,m)=>(.v x::ps,m))
 |.bs l::r,k=>(match yca r (k+1) with|(ps,m)=>(.obj k::ps,⟨.us (.byt l),false⟩::m))
 |.ns l::r,k=>(match yca r (k+1) with|(ps,m)=>(.obj k::ps,⟨.us (.ext (.nums l)),false⟩::m))
def ymy (t:TypeId):List (TypeId×Nat)→Option Nat
 |[]=>none
 |(u,n)::r=>match eqb u t with|true=>some n|false=>ymy t r
def wholeL:List (TypeId×Nat):=[(163,9)]
 ++[(115,2)]
 ++[(117,2)]
 ++[(112,4)]
 ++[(89,5)]
def wholeT (t:TypeId):Option Nat:=ymy t wholeL
theorem yjq {t n:Nat}:∀ {l:List (TypeId×Nat)},ymy t l=some n→(t,n)∈l
 |[],h=>by cases h
 |(u,m)::r,h=>by
  simp only [ymy] at h
  split at h
  ·rename_i he
   obtain rfl:=eqb_eq.1 he
   cases h
   exact zal ..
  ·exact List.mem_cons_of_mem _ (yjq h)
theorem ylw {t n:Nat} (h:wholeT t=some n):yan Try.prog (isAgg t)=some true∧yan Try.prog (sizeOf t)=some n:=by
 have:=yjq h
 simp only [wholeL,List.cons_append,List.nil_append,List.mem_cons,Prod.mk.injEq,List.not_mem_nil,or_false] at this
 rcases this with ⟨rfl,rfl⟩
  |⟨rfl,rfl⟩
  |⟨rfl,rfl⟩
  |⟨rfl,rfl⟩
  |⟨rfl,rfl⟩
 all_goals exact ⟨by kernel_rfl,by kernel_rfl⟩
theorem yhe:∀ (l:List CD) (k:Nat),(yca l k).1.length=l.length
 |[],_=>rfl
 |.v x::r,k=>by simp only [yca,zax,yhe r k]
 |.bs l::r,k=>by simp only [yca,zax,yhe r (k+1)]
 |.ns l::r,k=>by simp only [yca,zax,yhe r (k+1)]
theorem yi4 {i sz n' j:Nat} {el:Nat→List CD} {mu:Bool} {u:Value}:∀ (l:List CD) (j0:Nat) (vs:List Value) (e:Env) (mem:Mem Td),MemOk W0 G Id' w e mem→e[i]? =some u→mem[i]? =some ⟨.us (.ext (.shr sz n' el)),mu⟩→j<n'→
  (∀ q c,l[q]? =some c→∃ v,vs[q]? =some v∧c.holds w v∧CdAt w u (j * sz+(j0+q)) v∧j0+q<sz∧(el j)[j0+q]? =some c)→
  ∃ e',Grows e e'∧MemOk W0 G Id' w e' (mem++(yca l mem.length).2)∧∀ (q:Nat) p v,(yca l mem.length).1[q]? =some p→vs[q]? =some v→p.is e' v
 |[],_,_,e,mem,hM,_,_,_,_=>⟨e,Grows.refl _,by simpa [yca] using hM,fun q p v h=>by simp [yca] at h⟩
 |.v x::r,j0,vs,e,mem,hM,hE,hm,hj,hc=>by
  obtain ⟨v0,g0,g1,_⟩:=hc 0 _ rfl
  obtain ⟨e',k1,k2,k3⟩:=yi4 r (j0+1) vs.tail e mem hM hE hm hj fun q c hq=>by
   obtain ⟨v,a1,a2,a3,a4,a5⟩:=hc (q+1) c hq
   exact ⟨v,by rw [List.getElem?_tail];exact a1,a2,by rw [show j0+1+q=j0+(q+1) by omega];exact a3,by omega,by rw [show j0+1+q=j0+(q+1) by omega];exact a5⟩
  refine ⟨e',k1,by simpa only [yca] using k2,fun q p v hp hv=>?_⟩
  simp only [yca] at hp
  cases q with
  |zero=>
   simp only [zau,Option.some.injEq] at hp
   rw [g0] at hv
   cases hv
   subst hp
   exact g1
  |succ q=>exact k3 q p v hp (by rw [List.getElem?_tail];exact hv)
 |.bs l::r,j0,vs,e,mem,hM,hE,hm,hj,hc=>by
  obtain ⟨v0,g0,g1,g2,g3,g4⟩:=hc 0 _ rfl
  have hM':=hM.share v0 (.us (.byt l)) g1 fun kk hk=>⟨i,_,_,hE,hm,.inr ⟨j,j0,_,_,hj,g3,g4,hk.1,g2,hk.2⟩,fun _ hk=>hk.elim⟩
  have hil:i<e.length:=(zab.1 hE).1
  have him:i<mem.length:=(zab.1 hm).1
  obtain ⟨e',k1,k2,k3⟩:=yi4 r (j0+1) vs.tail (e++[v0]) (mem++[⟨.us (.byt l),false⟩]) hM' (by rw [zad hil];exact hE) (by rw [zad him];exact hm) hj fun q c hq=>by
   obtain ⟨v,a1,a2,a3,a4,a5⟩:=hc (q+1) c hq
   exact ⟨v,by rw [List.getElem?_tail];exact a1,a2,by rw [show j0+1+q=j0+(q+1) by omega];exact a3,by omega,by rw [show j0+1+q=j0+(q+1) by omega];exact a5⟩
  rw [zae,List.length_singleton] at k2 k3
  refine ⟨e',(Grows.push e v0).trans k1,by simpa only [yca,List.append_assoc,List.singleton_append] using k2,fun q p v hp hv=>?_⟩
  simp only [yca] at hp
  cases q with
  |zero=>
   simp only [zau,Option.some.injEq] at hp
   rw [g0] at hv
   cases hv
   subst hp
   exact k1 _ _ (by rw [← hM.len,zac (zbm _)];simp)
  |succ q=>exact k3 q p v hp (by rw [List.getElem?_tail];exact hv)
 |.ns l::r,j0,vs,e,mem,hM,hE,hm,hj,hc=>by
  obtain ⟨v0,g0,g1,g2,g3,g4⟩:=hc 0 _ rfl
  have hM':=hM.share v0 (.us (.ext (.nums l))) g1 fun kk hk=>⟨i,_,_,hE,hm,.inr ⟨j,j0,_,_,hj,g3,g4,hk.1,g2,hk.2⟩,fun _ hk=>hk.elim⟩
  have hil:i<e.length:=(zab.1 hE).1
  have him:i<mem.length:=(zab.1 hm).1
  obtain ⟨e',k1,k2,k3⟩:=yi4 r (j0+1) vs.tail (e++[v0]) (mem++[⟨.us (.ext (.nums l)),false⟩]) hM' (by rw [zad hil];exact hE) (by rw [zad him];exact hm) hj fun q c hq=>by
   obtain ⟨v,a1,a2,a3,a4,a5⟩:=hc (q+1) c hq
   exact ⟨v,by rw [List.getElem?_tail];exact a1,a2,by rw [show j0+1+q=j0+(q+1) by omega];exact a3,by omega,by rw [show j0+1+q=j0+(q+1) by omega];exact a5⟩
  rw [zae,List.length_singleton] at k2 k3
  refine ⟨e',(Grows.push e v0).trans k1,by simpa only [yca,List.append_assoc,List.singleton_append] using k2,fun q p v hp hv=>?_⟩
  simp only [yca] at hp
  cases q with
  |zero=>
   simp only [zau,Option.some.injEq] at hp
   rw [g0] at hv
   cases hv
   subst hp
   exact k1 _ _ (by rw [← hM.len,zac (zbm _)];simp)
  |succ q=>exact k3 q p v hp (by rw [List.getElem?_tail];exact hv)
def rwOf:FL→Option (List Bool×List Rw)
 |.rw _ ks R=>some (ks,R)
 |_=>none
theorem rwOf_eq {x:FL} {ks:List Bool} {R:List Rw} (h:rwOf x=some (ks,R)):∃ t,x=.rw t ks R:=by
 cases x with
 |rw t k r=>cases h;exact ⟨t,rfl⟩
 |secs L=>cases h
 |pens Q=>cases h
abbrev OpD:=Option (List Prop×SV×Option (Mem Td))
def yfz (t:TypeId) (us:List CV) (mem:Mem Td):OpD:=match us with
 |[.one (.ptr i off)]=>(match mem[i]? with
  |some ⟨.us (.ext (.big vs)),_⟩=>(match bigN t with
   |some n=>some ([off+n≤vs.length],svV (.agg ((vs.drop off).take n).toArray),none)
   |none=>(match cellT t with
    |true=>some ([off<vs.length],svV (vs.getD off undef),none)
    |false=>none))
  |_=>none)
 |[.one (.elt i sz idx off)]=>(match mem[i]? with
  |some ⟨.us (.ext (.flat x)),_⟩=>(match rwOf x with
   |some (ks,R)=>(match yl2 ks (R.getD idx.toNat Rw.zero) t sz off with|some s=>some ([],s,none)|none=>none)
   |none=>(match bigN t,eqb sz x.sz&&eqb off 0 with
    |some n,true=>(match eqb n x.sz with
     |true=>some ([],svV (x.el idx.toNat),none)
     |false=>none)
    |_,_=>none))
  |some ⟨.us (.ext (.vw ks R)),_⟩=>(match yl2 ks (R.getD idx.toNat Rw.zero) t sz off with|some s=>some ([],s,none)|none=>none)
  |some ⟨.us (.ext (.tab tb)),_⟩=>(match eqb sz (tb.k+1) with
   |true=>(match eqb off tb.k&&eqb t 37 with
    |true=>some ([],.c (.one (.obj mem.length)),some (mem++[⟨.us (.byt (tb.byt idx)),false⟩]))
    |false=>(match eqb off 0&&(eqb tb.k 1&&eqb t 3) with
     |true=>some ([],svV (.int .i64 (tb.int idx)),none)
     |false=>(match wholeT t,eqb off 0&&eqb tb.k 1 with
      |some m,true=>(match eqb m 2 with
       |true=>some ([],.c (.agg [.v (.int .i64 (tb.int idx)),.obj mem.length]),some (mem++[⟨.us (.byt (tb.byt idx)),false⟩]))
       |false=>none)
      |_,_=>none)))
   |false=>none)
  |some ⟨.us (.ext (.shr sz' _ el)),_⟩=>(match wholeT t with
   |some m=>(match eqb sz sz'&&eqb off 0&&(eqb m sz'&&eqb (el idx.toNat).length m),yca (el idx.toNat) mem.length with
    |true,(ps,[])=>some ([],.c (.agg ps),none)
    |true,(ps,n::r)=>some ([],.c (.agg ps),some (mem++n::r))
    |false,_=>none)
   |none=>(match eqb sz sz'&&leb (off+1) sz',(el idx.toNat)[off]? with
   |true,some (.v x)=>(match cellT t with
    |true=>some ([],svV x,none)
    |false=>none)
   |true,some (.bs l)=>(match eqb t 37 with
    |true=>some ([],.c (.one (.obj mem.length)),some (mem++[⟨.us (.byt l),false⟩]))
    |false=>none)
   |true,some (.ns l)=>(match eqb t 32 with
    |true=>some ([],.c (.one (.obj mem.length)),some (mem++[⟨.us (.ext (.nums l)),false⟩]))
    |false=>none)
   |_,_=>none))
  |some ⟨.us (.ext (.nums l)),_⟩=>(match eqb sz 1&&eqb off 0&&eqb t 3 with
   |true=>some ([],svV (.int .i64 (l.getD idx.toNat 0)),none)
   |false=>none)
  |some ⟨.us (.ins l),_⟩=>(match eqb sz 1&&eqb off 0&&eqb t 3 with
   |true=>some ([],svV (.int .i64 (l.getD idx.toNat 0)),none)
   |false=>none)
  |_=>(match yd2 mem (.obj i),eqb sz 1&&eqb off 0 with
   |some l,true=>(match eqb t 5 with
    |true=>some ([],svV (bv (l.getD idx.toNat 0)),none)
    |false=>(match eqb t 251 with
     |true=>some ([idx.toNat+128≤l.length],svV (secV ((l.drop idx.toNat).take 128)),none)
     |false=>none))
   |_,_=>none))
 |_=>none
theorem flat_el {x:FL} {u:Value} (h:yfi (.flat x) w u) {idx:Int} {n:Nat} {ao:Option Addr} {cap:Nat} (hu:u=.slice ao n cap) (hi:yc3 idx n):
  n=x.R.length∧∃ g,ao=some ⟨g,0,none⟩∧w.rangeAt g (idx.toNat * x.sz) (x.R.getD idx.toNat [])∧w.there g (idx.toNat * x.sz) x.sz∧(x.R.getD idx.toNat []).length=x.sz:=by
 obtain ⟨h0,B,hB,ho⟩:=h
 obtain ⟨ao',cap',he,_⟩:=(Rs.of_owns ho).open
 rw [hu] at he
 cases he
 obtain ⟨i1,i2⟩:=hi
 obtain ⟨g,cap2,he,_,h2,h3⟩:=yvp h0 ho i2
 rw [hu] at he
 cases he
 refine ⟨rfl,g,rfl,h2,h3,?_⟩
 refine h0 _ (zaj (i:=idx.toNat) ?_)
 rw [zaf,zaa i2];rfl
theorem yuo {u:Value} {l:List UInt8} (h:Bs w u l) {b o:Nat} {n cap:Nat} (hu:u=.slice (some ⟨b,o,none⟩) n cap) (k m:Nat):w.rangeAt b (o+k) (((l.drop k).take m).map bv):=by
 obtain ⟨_,ao,cap',he,_,_,_,h5⟩:=h
 rw [hu] at he
 cases he
 intro j v hv
 rw [zan,zai] at hv
 split at hv
 ·rw [zap] at hv
  have:=h5 _ rfl (k+j) v (by rw [zan];exact hv)
  rw [Addr.add_mid,←Nat.add_assoc] at this
  exact this
 ·cases hv
theorem yvy {t:TypeId} {us:List CV} {ps:List Prop} {r:SV} {mo:Option (Mem Td)} (h:yfz t us mem=some (ps,r,mo)) (hp:∀ p∈ps,p) {o:Oper} {ρ:Operand→Value} {x:Operand} (ho:o.op=.load t x) (hM:MemOk W0 G Id' w e mem) (ha:AllC e us [ρ x]):
  yai Try.prog (fun v w'=>OutIs Id' W0 G w e r v w' mo) ((execOp ρ o).run Try.prog w):=by
 unfold yfz at h
 split at h
 ·rename_i i off
  have ha:=yau ha.1
  obtain ⟨b,oo,hE,hx⟩:=ha
  split at h
  ·rename_i vs mu hm
   obtain ⟨h0,b',t',hv,hb⟩:=hM.holds i _ _ hE hm
   simp only [Value.pointer.injEq,Option.some.injEq,Addr.mk.injEq] at hv
   obtain ⟨rfl,rfl,_⟩:=hv
   rw [zbo] at hx
   split at h
   ·rename_i n hn
    simp only [Option.some.injEq,Prod.mk.injEq] at h
    obtain ⟨rfl,rfl,rfl⟩:=h
    have q:off+n≤vs.length:=hp _ (zal ..)
    rw [ybw ho hx (yle hn (cs:=(vs.drop off).take n) (fun j v hj=>by
     rw [yac hb]
     rw [zai] at hj
     split at hj
     ·rw [zap] at hj;simpa using hj
     ·cases hj) (by simp;omega))]
    exact ⟨rfl,Ext.refl w⟩
   ·split at h
    ·rename_i hc
     simp only [Option.some.injEq,Prod.mk.injEq] at h
     obtain ⟨rfl,rfl,rfl⟩:=h
     have q:off<vs.length:=hp _ (zal ..)
     rw [ybw ho hx (ydx hc (x:=vs.getD off undef) (by
      rw [yac hb,zaf]
      simp [q]))]
     exact ⟨rfl,Ext.refl w⟩
    ·cases h
  ·cases h
 ·rename_i i sz idx off
  have ha:=yau ha.1
  obtain ⟨b,oo,n,cap,hE,hi,hx⟩:=ha
  split at h
  ·rename_i y mu hm
   split at h
   ·rename_i ks R hrw
    obtain ⟨t',rfl⟩:=rwOf_eq hrw
    split at h
    ·rename_i s hs
     simp only [Option.some.injEq,Prod.mk.injEq] at h
     obtain ⟨rfl,rfl,rfl⟩:=h
     obtain ⟨h0,B,hB,ho2⟩:=hM.holds i _ _ hE hm
     have hi2:=hi
     obtain ⟨i1,i2⟩:=hi2
     obtain ⟨ao',cap',he,_,_,_,_,h5⟩:=(Rs.of_owns ho2).open
     cases he
     rw [FL.len] at i2
     have i2:idx.toNat<R.length:=i2
     have hr:R[idx.toNat]? =some (R.getD idx.toNat Rw.zero):=by rw [zaf,zaa i2];rfl
     obtain ⟨v,g1,g2⟩:=yo0 (w:=w) (e:=e) hs (b:=b) (o:=oo+idx.toNat * sz) (fun j v hv=>by
      have hsz:sz=ks.length:=by
       unfold yl2 at hs
       split at hs
       ·rename_i he;exact eqb_eq.1 he
       ·cases hs
      have hcell:=h5 _ rfl _ _ (ysg hr j v hv)
      rw [Addr.add_mid] at hcell
      rw [hsz,show oo+idx.toNat * ks.length+j=oo+(idx.toNat * ks.length+j) by omega]
      exact hcell)
     rw [show oo+idx.toNat * sz+off=oo+(idx.toNat * sz+off) by omega] at g1
     rw [ybw ho hx g1]
     exact ⟨g2,Ext.refl w⟩
    ·cases h
   ·rename_i hrw
    split at h
    ·rename_i n' hn hb
     split at h
     ·rename_i hns
      simp only [Option.some.injEq,Prod.mk.injEq] at h
      obtain ⟨rfl,rfl,rfl⟩:=h
      rw [zbs] at hb
      obtain rfl:=eqb_eq.1 hb.1
      obtain rfl:=eqb_eq.1 hb.2
      obtain rfl:=eqb_eq.1 hns
      obtain ⟨hnn,g,hg,h1,h2,h3⟩:=flat_el (hM.holds i _ _ hE hm) rfl hi
      cases hg
      rw [ybw ho hx (yle hn (by simpa using h1) h3)]
      have hlt:idx.toNat<y.R.length:=by have:=hi.2;omega
      exact ⟨(y.el_agg hlt).symm,Ext.refl w⟩
     ·cases h
    ·cases h
  ·rename_i ks R mu hm
   split at h
   ·rename_i s hs
    simp only [Option.some.injEq,Prod.mk.injEq] at h
    obtain ⟨rfl,rfl,rfl⟩:=h
    obtain ⟨h0,hR⟩:=hM.holds i _ _ hE hm
    have hi2:=hi
    obtain ⟨i1,i2⟩:=hi2
    obtain ⟨ao',cap',he,_,_,_,_,h5⟩:=hR.open
    cases he
    have hr:R[idx.toNat]? =some (R.getD idx.toNat Rw.zero):=by rw [zaf,zaa i2];rfl
    obtain ⟨v,g1,g2⟩:=yo0 (w:=w) (e:=e) hs (b:=b) (o:=oo+idx.toNat * sz) (fun j v hv=>by
     have hsz:sz=ks.length:=by
      unfold yl2 at hs
      split at hs
      ·rename_i he;exact eqb_eq.1 he
      ·cases hs
     have hcell:=h5 _ rfl _ _ (ysg hr j v hv)
     rw [Addr.add_mid] at hcell
     rw [hsz,show oo+idx.toNat * ks.length+j=oo+(idx.toNat * ks.length+j) by omega]
     exact hcell)
    rw [show oo+idx.toNat * sz+off=oo+(idx.toNat * sz+off) by omega] at g1
    rw [ybw ho hx g1]
    exact ⟨g2,Ext.refl w⟩
   ·cases h
  ·rename_i tb mu hm
   split at h
   ·rename_i hsz
    obtain rfl:=eqb_eq.1 hsz
    obtain ⟨h0,h1,vals,hl,⟨B,hB,hown⟩,hr⟩:=hM.holds i _ _ hE hm
    have hR:=Rs.of_owns hown
    obtain ⟨ao,cap',he,_,_,_,_,h5⟩:=hR.open
    cases he
    obtain ⟨i1,i2⟩:=hi
    have hri:tb.R[idx.toNat]? =some (elB tb.R idx):=by unfold elB;rw [zaf,zaa i2];rfl
    have hvi:vals[idx.toNat]? =some (vals.getD idx.toNat undef):=by rw [zaf,zaa (by omega)];rfl
    split at h
    ·rename_i hb
     simp only [Option.some.injEq,Prod.mk.injEq] at h
     obtain ⟨rfl,rfl,rfl⟩:=h
     rw [zbs] at hb
     obtain rfl:=eqb_eq.1 hb.1
     obtain rfl:=eqb_eq.1 hb.2
     rw [← TB.byt_eq]
     have hcell:=h5 _ rfl _ _ (yd6 hl h0 idx.toNat _ hvi)
     rw [Addr.add_mid] at hcell
     obtain ⟨hbs,hne⟩:=hr _ _ _ hvi hri
     have hone:(vals.getD idx.toNat undef).oneCell'=true:=by obtain ⟨_,ao,cap,hv,_⟩:=hbs;rw [hv];rfl
     obtain ⟨u,k1,k2⟩:=ydl (P:=Try.prog) (e:=[]) (w:=w) (ty:=37) (cells:=[PV.v (vals.getD idx.toNat undef)]) (off:=0) (y:=.one (.v (vals.getD idx.toNat undef))) (by kernel_rfl) (b:=b) (o:=oo+(idx.toNat * (tb.k+1)+tb.k)) (fun j p hj=>by
      match j,hj with
      |0,hj=>simp at hj;subst hj;exact ⟨_,hcell,rfl⟩
      |j+1,hj=>simp at hj)
     have:u=vals.getD idx.toNat undef:=k2
     subst this
     rw [ybw ho hx k1]
     refine ⟨e++[vals.getD idx.toNat undef],Grows.push _ _,?_,hM.share _ (.us (.byt (elB tb.R idx).2)) hbs fun kk hk=>?_⟩
     ·show (e++[_])[mem.length]? =_
      rw [← hM.len,zac (zbm _)];simp
     ·obtain ⟨hk1,hk2⟩:=hk
      refine ⟨i,_,_,hE,hm,.inr ⟨idx.toNat,_,_,hri,hk1,yox hl h0 hown hvi,hk2⟩,fun _ hk=>hne kk hk1 hk2 hk⟩
    ·split at h
     ·rename_i hb
      simp only [Option.some.injEq,Prod.mk.injEq] at h
      obtain ⟨rfl,rfl,rfl⟩:=h
      rw [zbs,zbs] at hb
      obtain rfl:=eqb_eq.1 hb.1
      have hk1:=eqb_eq.1 hb.2.1
      have hlt:0+1≤tb.k:=by omega
      have hrl:=h0 _ (zaj hri)
      have hcell:(yc0 tb.R vals)[idx.toNat * (tb.k+1)+0]? =some ((elB tb.R idx).1.getD 0 undef):=by
       have hfl:∀ r∈List.zipWith (fun (r:List Value×List UInt8) v=>r.1++[v]) tb.R vals,r.length=tb.k+1:=fun r hr'=>by
        rw [List.zipWith_eq_zipWith_take_min] at hr'
        obtain ⟨j,hj,rfl⟩:=zaz hr'
        simp only [List.getElem_zipWith,zae,zax,List.length_nil]
        rw [h0 _ (List.mem_of_mem_take (List.getElem_mem _))]
       refine ygq hfl (i:=idx.toNat) (j:=0) (r:=(elB tb.R idx).1++[vals.getD idx.toNat undef]) ?_ ?_
       ·rw [List.getElem?_zipWith,hri,hvi]
       ·rw [zad (by omega),zaf,zaa (by omega)];rfl
      have:=h5 _ rfl _ _ hcell
      rw [Addr.add_mid] at this
      have ht:=eqb_eq.1 hb.2.2
      subst ht
      rw [TB.int_eq tb idx hk1 i2] at this
      rw [ybw ho hx (ydx (t:=3) rfl this)]
      exact ⟨rfl,Ext.refl w⟩
     ·split at h
      ·rename_i m hwt hb2
       split at h
       ·rename_i hm2
        simp only [Option.some.injEq,Prod.mk.injEq] at h
        obtain ⟨rfl,rfl,rfl⟩:=h
        rw [zbs] at hb2
        obtain rfl:=eqb_eq.1 hb2.1
        have hk1:=eqb_eq.1 hb2.2
        obtain rfl:=eqb_eq.1 hm2
        obtain ⟨hA,hS⟩:=ylw hwt
        have hrl:=h0 _ (zaj hri)
        have hcell:(yc0 tb.R vals)[idx.toNat * (tb.k+1)+0]? =some ((elB tb.R idx).1.getD 0 undef):=by
         have hfl:∀ r∈List.zipWith (fun (r:List Value×List UInt8) v=>r.1++[v]) tb.R vals,r.length=tb.k+1:=fun r hr'=>by
          rw [List.zipWith_eq_zipWith_take_min] at hr'
          obtain ⟨j,hj,rfl⟩:=zaz hr'
          simp only [List.getElem_zipWith,zae,zax,List.length_nil]
          rw [h0 _ (List.mem_of_mem_take (List.getElem_mem _))]
         refine ygq hfl (i:=idx.toNat) (j:=0) (r:=(elB tb.R idx).1++[vals.getD idx.toNat undef]) ?_ ?_
         ·rw [List.getElem?_zipWith,hri,hvi]
         ·rw [zad (by omega),zaf,zaa (by omega)];rfl
        have c0:=h5 _ rfl _ _ hcell
        have c1:=h5 _ rfl _ _ (yd6 hl h0 idx.toNat _ hvi)
        rw [Addr.add_mid] at c0 c1
        rw [TB.int_eq tb idx hk1 i2] at c0
        rw [← TB.byt_eq]
        obtain ⟨hbs,hne⟩:=hr _ _ _ hvi hri
        have hM':=hM.share (vals.getD idx.toNat undef) (.us (.byt (elB tb.R idx).2)) hbs fun kk hk=>by
         obtain ⟨hk1,hk2⟩:=hk
         exact ⟨i,_,_,hE,hm,.inr ⟨idx.toNat,_,_,hri,hk1,yox hl h0 hown hvi,hk2⟩,fun _ hk=>hne kk hk1 hk2 hk⟩
        have hk:yfr Try.prog t [PV.v (.int .i64 (tb.int idx)),PV.obj mem.length] 0=some (.agg [PV.v (.int .i64 (tb.int idx)),PV.obj mem.length]):=by
         unfold yfr
         rw [hA,hS]
         rfl
        obtain ⟨u,g1,g2⟩:=ydl (P:=Try.prog) (e:=e++[vals.getD idx.toNat undef]) (w:=w) (ty:=t) (off:=0) hk (b:=b) (o:=oo+(idx.toNat * (tb.k+1)+0)) (fun j p hj=>by
         match j,hj with
         |0,hj=>simp at hj;subst hj;exact ⟨_,c0,rfl⟩
         |1,hj=>
          simp at hj;subst hj
          refine ⟨_,by rw [hk1] at c1 ⊢;exact c1,?_⟩
          show (e++[_])[mem.length]? =_
          rw [← hM.len,zac (zbm _)];simp
         |j+2,hj=>simp at hj)
        rw [ybw ho hx g1]
        exact ⟨e++[vals.getD idx.toNat undef],Grows.push _ _,g2,hM'⟩
       ·cases h
      ·cases h
   ·cases h
  ·rename_i sz' n' el mu hm
   obtain ⟨hs0,vals,hR,hc⟩:=hM.holds i _ _ hE hm
   have hlen:=hR.1
   obtain ⟨ao,cap',he,_,_,_,_,h5⟩:=hR.open
   cases he
   have key:∀ {c:CD},(eqb sz sz'&&leb (off+1) sz')=true→(el idx.toNat)[off]? =some c→∃ v,c.holds w v∧w.cell? ⟨b,oo+(idx.toNat * sz+off),none⟩=some v∧CdAt w (.slice (some ⟨b,oo,none⟩) n cap) (idx.toNat * sz'+off) v∧off<sz'∧idx.toNat<n:=fun {c} hb hce=>by
    rw [zbs] at hb
    obtain rfl:=eqb_eq.1 hb.1
    have hlt:=leb_le.1 hb.2
    obtain ⟨i1,i2⟩:=hi
    have hp:idx.toNat * sz+off<vals.length:=by rw [hlen];exact yrk i2 (by omega)
    have hv:=zaa hp
    have hcell:=h5 _ rfl _ _ hv
    refine ⟨_,hc _ _ _ _ i2 (by omega) hce hv,by rw [Addr.add_mid] at hcell;exact hcell,ywq hR hv,by omega,i2⟩
   have vpart:∀ {v:Value} {t:TypeId},yfr Try.prog t [PV.v v] 0=some (.one (.v v))→w.cell? ⟨b,oo+(idx.toNat * sz+off),none⟩=some v→(loadVar t ⟨b,oo+(idx.toNat * sz+off),none⟩).run Try.prog w=.ok v w:=fun {v t} hk hcell=>by
    obtain ⟨u,k1,k2⟩:=ydl (P:=Try.prog) (e:=[]) (w:=w) (ty:=t) (cells:=[PV.v v]) (off:=0) (y:=.one (.v v)) hk (b:=b) (o:=oo+(idx.toNat * sz+off)) (fun j p hj=>by
     match j,hj with
     |0,hj=>simp at hj;subst hj;exact ⟨_,hcell,rfl⟩
     |j+1,hj=>simp at hj)
    have:u=v:=k2
    subst this
    exact k1
   split at h
   ·rename_i m hwt
    obtain ⟨hA,hS⟩:=ylw hwt
    have whole:(eqb sz sz'&&eqb off 0&&(eqb m sz'&&eqb (el idx.toNat).length m))=true→∀ pvs ms,yca (el idx.toNat) mem.length=(pvs,ms)→∃ e' v',Grows e e'∧MemOk W0 G Id' w e' (mem++ms)∧(CV.agg pvs).is e' v'∧(loadVar t ⟨b,oo+(idx.toNat * sz+off),none⟩).run Try.prog w=.ok v' w:=by
     intro hb pvs ms hv
     simp only [zbs] at hb
     obtain ⟨⟨q1,q2⟩,q3,q4⟩:=hb
     obtain rfl:=eqb_eq.1 q1
     obtain rfl:=eqb_eq.1 q2
     obtain rfl:=eqb_eq.1 q3
     have hln:=eqb_eq.1 q4
     obtain ⟨i1,i2⟩:=hi
     have hvl:∀ q,q<m→∃ v,vals[idx.toNat * m+q]? =some v:=fun q hq=>⟨_,zaa (by rw [hlen];exact yrk i2 hq)⟩
     obtain ⟨e',k1,k2,k3⟩:=yi4 (i:=i) (j:=idx.toNat) (el:=el) (el idx.toNat) 0 ((vals.drop (idx.toNat * m)).take m) e mem hM hE hm i2 (fun q c hq=>by
      have hqm:q<m:=by rw [← hln];exact (zab.1 hq).1
      obtain ⟨v,hv⟩:=hvl q hqm
      refine ⟨v,?_,hc _ _ _ _ i2 hqm hq hv,?_,by omega,by rw [zbo];exact hq⟩
      ·rw [List.getElem?_take_of_lt hqm,zap];exact hv
      ·rw [zbo];exact ywq hR hv)
     rw [hv] at k2 k3
     have hpl:pvs.length=m:=by
      have:=yhe (el idx.toNat) mem.length
      rw [hv] at this
      rw [← hln];exact this
     have hk:yfr Try.prog t pvs 0=some (.agg pvs):=by
      unfold yfr
      rw [hA,hS]
      have:leb (0+m) pvs.length=true:=leb_le.2 (by omega)
      simp only [this]
      rw [List.drop_zero,List.take_of_length_le (by omega)]
     obtain ⟨u,g1,g2⟩:=ydl (P:=Try.prog) (e:=e') (w:=w) (ty:=t) (cells:=pvs) (off:=0) (y:=.agg pvs) hk (b:=b) (o:=oo+(idx.toNat * m+0)) (fun j p hj=>by
      have hjm:j<m:=by rw [← hpl];exact (zab.1 hj).1
      obtain ⟨v,hv⟩:=hvl j hjm
      have hcell:=h5 _ rfl _ _ hv
      rw [Addr.add_mid] at hcell
      refine ⟨v,by rw [show oo+(idx.toNat * m+0)+j=oo+(idx.toNat * m+j) by omega];exact hcell,k3 j p v hj ?_⟩
      rw [List.getElem?_take_of_lt hjm,zap];exact hv)
     exact ⟨e',u,k1,k2,g2,g1⟩
    split at h
    ·rename_i pvs hb hv
     simp only [Option.some.injEq,Prod.mk.injEq] at h
     obtain ⟨rfl,rfl,rfl⟩:=h
     obtain ⟨e',v',k1,k2,k3,k4⟩:=whole hb _ _ hv
     have hee:e'=e:=by
      have hl:=k2.len
      rw [List.append_nil] at hl
      have hl2:=hM.len
      apply List.ext_getElem?
      intro q
      rcases Nat.lt_or_ge q e.length with hq|hq
      ·rw [zaa hq]
       exact k1 _ _ (zaa hq)
      ·rw [zas (by omega),zas hq]
     rw [hee] at k3
     rw [ybw ho hx k4]
     exact ⟨k3,Ext.refl w⟩
    ·rename_i pvs n1 r1 hb hv
     simp only [Option.some.injEq,Prod.mk.injEq] at h
     obtain ⟨rfl,rfl,rfl⟩:=h
     obtain ⟨e',v',k1,k2,k3,k4⟩:=whole hb _ _ hv
     rw [ybw ho hx k4]
     exact ⟨e',k1,k3,k2⟩
    ·cases h
   ·split at h
    ·rename_i x hb hce
     split at h
     ·rename_i ht
      simp only [Option.some.injEq,Prod.mk.injEq] at h
      obtain ⟨rfl,rfl,rfl⟩:=h
      obtain ⟨v,k1,k2,_⟩:=key hb hce
      have:v=x:=k1
      subst this
      rw [ybw ho hx (ydx ht k2)]
      exact ⟨rfl,Ext.refl w⟩
     ·cases h
    ·rename_i l hb hce
     split at h
     ·rename_i ht
      obtain rfl:=eqb_eq.1 ht
      simp only [Option.some.injEq,Prod.mk.injEq] at h
      obtain ⟨rfl,rfl,rfl⟩:=h
      obtain ⟨v,k1,k2,k3,k4,k5⟩:=key hb hce
      rw [ybw ho hx (vpart (by kernel_rfl) k2)]
      refine ⟨e++[v],Grows.push _ _,?_,hM.share _ (.us (.byt l)) k1 fun kk hk=>?_⟩
      ·show (e++[_])[mem.length]? =_
       rw [← hM.len,zac (zbm _)];simp
      ·obtain ⟨hk1,hk2⟩:=hk
       exact ⟨i,_,_,hE,hm,.inr ⟨idx.toNat,off,_,_,k5,k4,hce,hk1,k3,hk2⟩,fun _ hk=>hk.elim⟩
     ·cases h
    ·rename_i l hb hce
     split at h
     ·rename_i ht
      obtain rfl:=eqb_eq.1 ht
      simp only [Option.some.injEq,Prod.mk.injEq] at h
      obtain ⟨rfl,rfl,rfl⟩:=h
      obtain ⟨v,k1,k2,k3,k4,k5⟩:=key hb hce
      rw [ybw ho hx (vpart (by kernel_rfl) k2)]
      refine ⟨e++[v],Grows.push _ _,?_,hM.share _ (.us (.ext (.nums l))) k1 fun kk hk=>?_⟩
      ·show (e++[_])[mem.length]? =_
       rw [← hM.len,zac (zbm _)];simp
      ·obtain ⟨hk1,hk2⟩:=hk
       exact ⟨i,_,_,hE,hm,.inr ⟨idx.toNat,off,_,_,k5,k4,hce,hk1,k3,hk2⟩,fun _ hk=>hk.elim⟩
     ·cases h
    ·cases h
  ·rename_i l mu hm
   split at h
   ·rename_i hb
    simp only [Option.some.injEq,Prod.mk.injEq] at h
    obtain ⟨rfl,rfl,rfl⟩:=h
    rw [zbs,zbs] at hb
    obtain rfl:=eqb_eq.1 hb.1.1
    obtain rfl:=eqb_eq.1 hb.1.2
    obtain rfl:=eqb_eq.1 hb.2
    have hown:Is w _ l:=hM.holds i _ _ hE hm
    obtain ⟨ao,cap',he,_,_,_,_,h5⟩:=Rs.open hown
    cases he
    obtain ⟨i1,i2⟩:=hi
    have:=h5 _ rfl idx.toNat (iv (l.getD idx.toNat 0)) (by rw [zan,zaf,zaa i2];rfl)
    rw [Addr.add_mid] at this
    rw [ybw ho hx (ydx (t:=3) rfl (by simpa using this))]
    exact ⟨rfl,Ext.refl w⟩
   ·cases h
  ·rename_i l mu hm
   split at h
   ·rename_i hb
    simp only [Option.some.injEq,Prod.mk.injEq] at h
    obtain ⟨rfl,rfl,rfl⟩:=h
    rw [zbs,zbs] at hb
    obtain rfl:=eqb_eq.1 hb.1.1
    obtain rfl:=eqb_eq.1 hb.1.2
    obtain rfl:=eqb_eq.1 hb.2
    obtain ⟨B,hB,hown⟩:=hM.holds i _ _ hE hm
    obtain ⟨ao,cap',he,_,_,_,_,h5⟩:=(Rs.of_owns hown).open
    cases he
    obtain ⟨i1,i2⟩:=hi
    have:=h5 _ rfl idx.toNat (iv (l.getD idx.toNat 0)) (by rw [zan,zaf,zaa i2];rfl)
    rw [Addr.add_mid] at this
    rw [ybw ho hx (ydx (t:=3) rfl (by simpa using this))]
    exact ⟨rfl,Ext.refl w⟩
   ·cases h
  ·split at h
   ·rename_i l hl hb
    have hbs:=yc4 hM hl hE
    rw [zbs] at hb
    obtain rfl:=eqb_eq.1 hb.1
    obtain rfl:=eqb_eq.1 hb.2
    have hn:n=l.length:=hbs.len
    obtain ⟨i1,i2⟩:=hi
    split at h
    ·rename_i ht
     obtain rfl:=eqb_eq.1 ht
     simp only [Option.some.injEq,Prod.mk.injEq] at h
     obtain ⟨rfl,rfl,rfl⟩:=h
     have hrg:=yuo hbs rfl idx.toNat 1
     have:=hrg 0 (bv (l.getD idx.toNat 0)) (by
      rw [zan,zai,if_pos (by omega),zap,zaf,Nat.add_zero,zaa (by omega)];rfl)
     rw [ybw ho hx (ydx (t:=5) rfl (by simpa using this))]
     exact ⟨rfl,Ext.refl w⟩
    ·split at h
     ·rename_i ht
      obtain rfl:=eqb_eq.1 ht
      simp only [Option.some.injEq,Prod.mk.injEq] at h
      obtain ⟨rfl,rfl,rfl⟩:=h
      have q:idx.toNat+128≤l.length:=hp _ (zal ..)
      have hrg:=yuo hbs rfl idx.toNat 128
      rw [ybw ho hx (yle (n:=128) (cs:=((l.drop idx.toNat).take 128).map bv) rfl (by simpa using hrg) (by simp;omega))]
      exact ⟨rfl,Ext.refl w⟩
     ·cases h
   ·cases h
 ·cases h
end
end Go.Proofs.Ytiiekgcjilelpaa
