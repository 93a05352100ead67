/- H5. -/
import Derived.Test.YtiiekgcjilelpaaH4p
open List renaming getElem?_eq_getElem → zaa, mem_cons_self → zal, replicate → zbg
set_option linter.unusedSimpArgs false
set_option linter.unusedVariables false
namespace Go.Proofs.Ytiiekgcjilelpaa
open Go.RowKit
section
variable {W0:World} {G:Nat→Prop} {w w':World} {e:Env} {mem:Mem Td}
def zeroC (t:TypeId):Option (List Value):=match eqb t 251 with
 |true=>some (zbg 128 (.int .u8 0))
 |false=>(match eqb t 253 with
  |true=>some (.int .i64 0::zbg 128 (.int .u8 0))
  |false=>none)
def ygm (t:TypeId) (us:List CV) (mem:Mem Td):OpD:=none
theorem yr8 {t:TypeId} {us:List CV} {ps:List Prop} {r:SV} {mo:Option (Mem Td)} (h:ygm t us mem=some (ps,r,mo)) {o:Oper} {ρ:Operand→Value} (ho:o.op=.alloc t) (hM:MemOk W0 G Id' w e mem):
  yai Try.prog (fun v w'=>OutIs Id' W0 G w e r v w' mo) ((execOp ρ o).run Try.prog w):=by
 unfold ygm at h
 cases h
def lenD (mem:Mem Td) (i:Nat):Option (Nat×Nat):=match mem[i]? with
 |some ⟨.us (.ext (.flat x)),_⟩=>some (x.n,x.sz)
 |some ⟨.us (.ext (.tab tb)),_⟩=>some (tb.n,tb.k+1)
 |some ⟨.us (.ext (.shr sz n _)),_⟩=>some (n,sz)
 |some ⟨.us (.ext (.nums l)),_⟩=>some (l.length,1)
 |some ⟨.us (.ext (.vw ks R)),_⟩=>some (R.length,ks.length)
 |some ⟨.us (.own l),_⟩=>some (l.length,1)
 |some ⟨.us (.byt l),_⟩=>some (l.length,1)
 |some ⟨.us (.bal l),_⟩=>some (l.length,1)
 |some ⟨.us (.ins l),_⟩=>some (l.length,1)
 |_=>none
theorem ysc (hM:MemOk W0 G Id' w e mem) {i n s:Nat} (h:lenD mem i=some (n,s)) {u:Value} (hu:e[i]? =some u):∃ ao cap,u=.slice ao n cap∧n≤cap∧(0<n→∃ b o,ao=some ⟨b,o,none⟩):=by
 have key:∀ {B s:Nat} {t:TypeId} {n:Nat} {xs:List Value},w.ownsRow B t s u n xs→∃ ao cap,u=.slice ao n cap∧n≤cap∧(0<n→∃ b o,ao=some ⟨b,o,none⟩):=fun {B s t n xs} ho=>by
  rcases ho.2 with ⟨h1,h2⟩|⟨g,cap,cur,h1,_,_,h2,_⟩
  ·exact ⟨none,0,by rw [h1,h2],by omega,fun h=>by omega⟩
  ·exact ⟨_,cap,h1,h2,fun _=>⟨g,0,rfl⟩⟩
 unfold lenD at h
 split at h
 ·rename_i hm
  simp only [Option.some.injEq,Prod.mk.injEq] at h
  obtain ⟨rfl,rfl⟩:=h
  obtain ⟨_,B,_,ho⟩:=hM.holds i u _ hu hm
  rw [FL.len] at ho
  exact key ho
 ·rename_i hm
  simp only [Option.some.injEq,Prod.mk.injEq] at h
  obtain ⟨rfl,rfl⟩:=h
  obtain ⟨_,_,vals,_,⟨B,_,ho⟩,_⟩:=hM.holds i u _ hu hm
  rw [TB.len] at ho
  exact key ho
 ·rename_i sz' n' el mu hm
  simp only [Option.some.injEq,Prod.mk.injEq] at h
  obtain ⟨rfl,rfl⟩:=h
  obtain ⟨hs0,vals,hR,_⟩:=hM.holds i u _ hu hm
  have hlen:=hR.1
  obtain ⟨ao,cap,rfl,h1,h2,h3,_,h4⟩:=hR.open
  refine ⟨ao,cap,rfl,h1,fun hn=>?_⟩
  cases ao with
  |none=>have:=h3 rfl;omega
  |some a=>
   have hp:0<vals.length:=by rw [hlen];exact Nat.mul_pos hn hs0
   have hc:=h4 a rfl 0 _ (zaa hp)
   rw [yd5] at hc
   obtain ⟨b,o,sp⟩:=a
   cases sp with
   |none=>exact ⟨b,o,rfl⟩
   |some x=>
    unfold World.cell? at hc
    split at hc
    ·simp at hc
    ·cases hc
 ·rename_i l mu hm
  simp only [Option.some.injEq,Prod.mk.injEq] at h
  obtain ⟨rfl,rfl⟩:=h
  have hR:Rs w 1 u l.length (l.map iv):=hM.holds i u _ hu hm
  have hs0:0<1:=Nat.zero_lt_one
  have hlen:=hR.1
  obtain ⟨ao,cap,rfl,h1,h2,h3,_,h4⟩:=hR.open
  refine ⟨ao,cap,rfl,h1,fun hn=>?_⟩
  cases ao with
  |none=>have:=h3 rfl;omega
  |some a=>
   have hp:0<(l.map iv).length:=by rw [hlen];exact Nat.mul_pos hn hs0
   have hc:=h4 a rfl 0 _ (zaa hp)
   rw [yd5] at hc
   obtain ⟨b,o,sp⟩:=a
   cases sp with
   |none=>exact ⟨b,o,rfl⟩
   |some x=>
    unfold World.cell? at hc
    split at hc
    ·simp at hc
    ·cases hc
 ·rename_i ks R mu hm
  simp only [Option.some.injEq,Prod.mk.injEq] at h
  obtain ⟨rfl,rfl⟩:=h
  obtain ⟨hs0,hR⟩:=hM.holds i u _ hu hm
  have hlen:=hR.1
  obtain ⟨ao,cap,rfl,h1,h2,h3,_,h4⟩:=hR.open
  refine ⟨ao,cap,rfl,h1,fun hn=>?_⟩
  cases ao with
  |none=>have:=h3 rfl;omega
  |some a=>
   have hp:0<(R.map (rwV ks)).flatten.length:=by rw [hlen];exact Nat.mul_pos hn hs0
   have hc:=h4 a rfl 0 _ (zaa hp)
   rw [yd5] at hc
   obtain ⟨b,o,sp⟩:=a
   cases sp with
   |none=>exact ⟨b,o,rfl⟩
   |some x=>
    unfold World.cell? at hc
    split at hc
    ·simp at hc
    ·cases hc
 ·rename_i hm
  simp only [Option.some.injEq,Prod.mk.injEq] at h
  obtain ⟨rfl,rfl⟩:=h
  obtain ⟨B,_,ho⟩:=hM.holds i u _ hu hm
  exact key ho
 ·rename_i l mu hm
  simp only [Option.some.injEq,Prod.mk.injEq] at h
  obtain ⟨rfl,rfl⟩:=h
  obtain ⟨ao,cap,rfl,h1,h2,h3,h4⟩:=Bs.open (hM.holds i u _ hu hm)
  refine ⟨ao,cap,rfl,h1,fun hn=>?_⟩
  cases ao with
  |none=>have:=h3 rfl;omega
  |some a=>
   have hc:=h4 a rfl 0 hn
   rw [yd5] at hc
   obtain ⟨b,o,sp⟩:=a
   cases sp with
   |none=>exact ⟨b,o,rfl⟩
   |some x=>
    unfold World.cell? at hc
    split at hc
    ·simp at hc
    ·cases hc
 ·rename_i l mu hm
  simp only [Option.some.injEq,Prod.mk.injEq] at h
  obtain ⟨rfl,rfl⟩:=h
  obtain ⟨b,t,cur,c,h1,_,h2,_⟩:=hM.holds i u _ hu hm
  exact ⟨_,c,h1,h2,fun _=>⟨b,0,rfl⟩⟩
 ·rename_i hm
  simp only [Option.some.injEq,Prod.mk.injEq] at h
  obtain ⟨rfl,rfl⟩:=h
  obtain ⟨B,_,ho⟩:=hM.holds i u _ hu hm
  exact key ho
 ·cases h
theorem ykk {m m':Mem Td} (hl:MLe m m') {i:Nat} {n:Nat×Nat} (h:lenD m i=some n):lenD m' i=some n:=by
 unfold lenD at h ⊢
 split at h
 all_goals first
  |(rename_i hm;simp only [hl _ _ hm (by simp)];exact h)
  |cases h
def yuf (t:TypeId):List (TypeId×Nat)→Option Nat
 |[]=>none
 |(u,n)::r=>match eqb u t with|true=>some n|false=>yuf t r
def elSzL:List (TypeId×Nat):=[(37,1),(32,1),(246,128),(247,129),(153,1),(154,2),(138,6),(159,9),(60,4),(206,3),(81,3),(85,4),(226,2),(229,2),(108,2),(104,4),(75,5)]
def elSz (t:TypeId):Option Nat:=yuf t elSzL
theorem ymm {t n:Nat}:∀ {l:List (TypeId×Nat)},yuf t l=some n→(t,n)∈l
 |[],h=>by cases h
 |(u,m)::r,h=>by
  simp only [yuf] at h
  split at h
  ·rename_i he
   obtain rfl:=eqb_eq.1 he
   cases h
   exact zal ..
  ·exact List.mem_cons_of_mem _ (ymm h)
theorem elSz_all:∀ p∈elSzL,yan Try.prog (yrn p.1)=some p.2:=by
 intro p hp
 unfold elSzL at hp
 repeat' (rcases List.mem_cons.1 hp with rfl|hp; · kernel_rfl)
 cases hp
theorem yn3 {t n:Nat} (h:elSz t=some n):yan Try.prog (yrn t)=some n:=elSz_all (t,n) (ymm h)
def ynr (t:TypeId) (us:List CV) (mem:Mem Td):OpD:=match us with
 |[.one (.obj i),.one q]=>(match lenD mem i,valP q,elSz t with
  |some (n,s),some (.int _ k),some sz=>(match eqb s sz with
   |true=>some ([yc3 k n],.c (.one (.elt i s k 0)),none)
   |false=>none)
  |_,_,_=>none)
 |[.one (.sub i s0 lo hi),.one q]=>(match lenD mem i,valP q,elSz t with
  |some (n,s),some (.int _ k),some sz=>(match eqb s sz&&eqb s0 s with
   |true=>some ([yc3 k (hi - lo)],.c (.one (.elt i s ((lo:Int)+k) 0)),none)
   |false=>none)
  |_,_,_=>none)
 |_=>none
theorem yv1 {t:TypeId} {us:List CV} {ps:List Prop} {r:SV} {mo:Option (Mem Td)} (h:ynr t us mem=some (ps,r,mo)) (hp:∀ p∈ps,p) {o:Oper} {ρ:Operand→Value} {x y:Operand} (ho:o.op=.indexAddr t x y) (hM:MemOk W0 G Id' w e mem) (ha:AllC e us [ρ x,ρ y]):
  yai Try.prog (fun v w'=>OutIs Id' W0 G w e r v w' mo) ((execOp ρ o).run Try.prog w):=by
 unfold ynr at h
 split at h
 ·rename_i i q
  split at h
  ·rename_i n s kk k sz hl hv hsz
   split at h
   ·rename_i hs
    obtain rfl:=eqb_eq.1 hs
    simp only [Option.some.injEq,Prod.mk.injEq] at h
    obtain ⟨rfl,rfl,rfl⟩:=h
    have q1:yc3 k n:=hp _ (zal ..)
    have hx:e[i]? =some (ρ x):=ha.1
    have hy:ρ y=.int kk k:=yad hv (yau ha.2.1)
    obtain ⟨ao,cap,hvx,hn,hao⟩:=ysc hM hl hx
    obtain ⟨b,oo,rfl⟩:=hao (by have:=q1.2;omega)
    obtain ⟨elem,g1,g2⟩:=yfv (yn3 hsz) w
    have hrun:(execOp ρ o).run Try.prog w=.ok (.value (.pointer (some ⟨b,oo+(k.toNat * s+0),none⟩))) w:=by
     unfold execOp
     simp only [ho,hvx,hy,Instr.indexAt,asIntOf,Sem.run_bind,Sem.run_pure,Result.andThen_ok,g1]
     rw [if_pos ⟨q1.1,by have:=q1.1;have:=q1.2;omega⟩]
     simp only [Sem.run_bind,g2,Result.andThen_ok,Sem.run_pure]
     rw [Addr.add_mid]
     rfl
    rw [hrun]
    exact ⟨⟨b,oo,n,cap,by rw [hx,hvx],q1,rfl⟩,Ext.refl w⟩
   ·cases h
  ·cases h
 ·rename_i i s0 lo hi q
  split at h
  ·rename_i n s kk k sz hl hv hsz
   split at h
   ·rename_i hs
    rw [Bool.and_eq_true] at hs
    obtain rfl:=eqb_eq.1 hs.1
    obtain rfl:=eqb_eq.1 hs.2
    simp only [Option.some.injEq,Prod.mk.injEq] at h
    obtain ⟨rfl,rfl,rfl⟩:=h
    have q1:yc3 k (hi - lo):=hp _ (zal ..)
    obtain ⟨ao0,n0,cap0,hE,hlo,hhi,hux⟩:=yau ha.1
    have hy:ρ y=.int kk k:=yad hv (yau ha.2.1)
    obtain ⟨ao,cap,hvx,hn,hao⟩:=ysc hM hl hE
    cases hvx
    have hk2:=q1.2
    have hk1:=q1.1
    obtain ⟨b,oo,rfl⟩:=hao (by omega)
    rw [if_neg (by omega)] at hux
    obtain ⟨elem,g1,g2⟩:=yfv (yn3 hsz) w
    have hrun:(execOp ρ o).run Try.prog w=.ok (.value (.pointer (some ⟨b,oo+(((lo:Int)+k).toNat * s0+0),none⟩))) w:=by
     unfold execOp
     simp only [ho,hux,hy,Instr.indexAt,asIntOf,Sem.run_bind,Sem.run_pure,Result.andThen_ok,g1,Option.map_some]
     rw [if_pos ⟨hk1,by omega⟩]
     simp only [Sem.run_bind,g2,Result.andThen_ok,Sem.run_pure]
     rw [Addr.add_mid,Addr.add_mid]
     have:((lo:Int)+k).toNat=lo+k.toNat:=by omega
     rw [this,Nat.add_mul,show oo+lo * s0+k.toNat * s0=oo+(lo * s0+k.toNat * s0+0) by omega]
    rw [hrun]
    exact ⟨⟨b,oo,_,_,hE,⟨by omega,by omega⟩,rfl⟩,Ext.refl w⟩
   ·cases h
  ·cases h
 ·cases h
def ynl (t:TypeId) (us:List CV) (mem:Mem Td):OpD:=none
end
end Go.Proofs.Ytiiekgcjilelpaa
