/- H4. -/
import Derived.Test.YtiiekgcjilelpaaH3p
set_option linter.unusedSimpArgs false
set_option linter.unusedVariables false
namespace Go.Proofs.Ytiiekgcjilelpaa
open Go.RowKit
section
variable {W0:World} {G:Nat→Prop} {w w':World} {e:Env} {mem:Mem Td}
theorem cell_store {t:TypeId} (hz:pureSem Try.prog (sizeOf t)=some 1) {b k:Nat} {v x:Value} (hc:w.cell? ⟨b,k,none⟩=some x) (hf:w.frozen? ⟨b,k,none⟩=false) (h1:v.oneCell'=true):
  (storeVar t ⟨b,k,none⟩ v).run Try.prog w=.ok () (w.setCell ⟨b,k,none⟩ v):=by
 have hs:=pureSem_run _ hz w
 have hus:v.cells=#[v]:=by cases v<;>simp_all [Value.cells,Value.oneCell']
 have hrun:=run_storeCells_cells (P:=Try.prog) b k [v] 0 w (fun j hj=>by simp at hj;subst hj;simp [hc]) (fun j hj=>by simp at hj;subst hj;simp [hf]) (fun u hu=>by simp at hu;subst hu;exact h1)
 simp only [storeVar,Sem.run_bind,hs,hus,Result.andThen_ok]
 simpa [World.setCells,storeCells] using hrun
def cellsV:Value→List Value
 |.agg a=>a.toList
 |x=>[x]
def AggOk (V:Value) (n:Nat):Prop:=V=.agg (cellsV V).toArray∧(cellsV V).length=n∧∀ v∈cellsV V,v.oneCell'=true
theorem freeze (hM:MemOk W0 G Id' w e mem) {j:Nat} {u:Value} {b:Td} {l:List UInt8} (hu:e[j]? =some u) (hm:mem[j]? =some ⟨.us b,true⟩) (hb:Bs w u l) (hown:∀ k,u.ownBlock=some k→Own Id' w u (.us b) k):MemOk W0 G Id' w e (mem.set j ⟨.us (.byt l),false⟩):=by
 refine hM.upd hu hm (Mod.refl _ w) ⟨.us (.byt l),false⟩ hb fun k hk=>?_
 have:=hown k hk.2
 exact ⟨.inl this,hM.lt j u _ hu hm k this.foot⟩
def opStoreD (t:TypeId) (us:List CV) (mem:Mem Td):OpD:=match us with
 |[.one (.ptr i off),.one (.v V)]=>(match mem[i]? with
  |some ⟨.us (.ext (.big vs)),true⟩=>(match bigN t,eqb off 0 with
   |some n,true=>some ([vs.length=n,AggOk V n],svV undef,some (mem.set i ⟨.us (.ext (.big (cellsV V))),true⟩))
   |_,_=>none)
  |_=>none)
 |[.one (.elt i sz idx off),.one q]=>(match mem[i]? with
  |some ⟨.us (.ext (.flat (.secs L))),true⟩=>(match eqb t 251&&(eqb sz 128&&eqb off 0),q with
   |true,.v V=>some ([AggOk V 128,cellsV V=(unb (cellsV V)).map bv],svV undef,some (mem.set i ⟨.us (.ext (.flat (.secs (L.set idx.toNat (unb (cellsV V)))))),true⟩))
   |_,_=>none)
  |some ⟨.us (.ext (.tab tb)),true⟩=>(match eqb sz (tb.k+1)&&(eqb off tb.k&&eqb t 37),q with
   |true,.obj j=>(match mem[j]? with
    |some ⟨.us (.byt l),false⟩=>some ([],svV undef,some (mem.set i ⟨.us (.ext (.tab (tb.setB idx l))),true⟩))
    |some ⟨.us (.own l),true⟩=>some ([],svV undef,some ((mem.set j ⟨.us (.byt l),false⟩).set i ⟨.us (.ext (.tab (tb.setB idx l))),true⟩))
    |_=>none)
   |_,_=>none)
  |some ⟨.us (.own l),true⟩=>(match eqb sz 1&&(eqb off 0&&eqb t 5),valP q with
   |true,some (.int .u8 n)=>some ([0≤n∧n<256],svV undef,some (mem.set i ⟨.us (.own (l.set idx.toNat (UInt8.ofNat n.toNat))),true⟩))
   |_,_=>none)
  |some ⟨.us (.bal l),true⟩=>(match eqb sz 1&&(eqb off 0&&eqb t 5),valP q with
   |true,some (.int .u8 n)=>some ([0≤n∧n<256],svV undef,some (mem.set i ⟨.us (.bal (l.set idx.toNat (UInt8.ofNat n.toNat))),true⟩))
   |_,_=>none)
  |_=>none)
 |_=>none
theorem opStoreD_ost {t:TypeId} {p:PV} {v:CV} {mem m':Mem Td} {ps:List Prop} {r:SV} (hnv:noHC v=true) (h:opStoreD t [.one p,v] mem=some (ps,r,some m')):∃ i,placeP p=some i∧∀ j en,mem[j]? =some en→j≠i→m'[j]? =some en:=by
 have key:∀ (i:Nat) (x:En Td),∀ j en,mem[j]? =some en→j≠i→(mem.set i x)[j]? =some en:=fun i x j en hj hne=>by rw [List.getElem?_set_ne (Ne.symm hne)];exact hj
 unfold opStoreD at h
 split at h
 ·rename_i i off V he
  cases he
  split at h
  ·split at h
   ·simp only [Option.some.injEq,Prod.mk.injEq] at h
    obtain ⟨_,_,rfl⟩:=h
    exact ⟨i,rfl,key i _⟩
   ·cases h
  ·cases h
 ·rename_i i sz idx off q he
  cases he
  split at h
  ·split at h
   ·simp only [Option.some.injEq,Prod.mk.injEq] at h
    obtain ⟨_,_,rfl⟩:=h
    exact ⟨i,rfl,key i _⟩
   ·cases h
  ·split at h
   ·split at h
    ·simp only [Option.some.injEq,Prod.mk.injEq] at h
     obtain ⟨_,_,rfl⟩:=h
     exact ⟨i,rfl,key i _⟩
    ·simp [noHC,noHP,placeP] at hnv
    ·cases h
   ·cases h
  ·split at h
   ·simp only [Option.some.injEq,Prod.mk.injEq] at h
    obtain ⟨_,_,rfl⟩:=h
    exact ⟨i,rfl,key i _⟩
   ·cases h
  ·split at h
   ·simp only [Option.some.injEq,Prod.mk.injEq] at h
    obtain ⟨_,_,rfl⟩:=h
    exact ⟨i,rfl,key i _⟩
   ·cases h
  ·cases h
 ·cases h
theorem tabCells_set {k:Nat} {l:List UInt8} {v:Value}:∀ {R:List (List Value×List UInt8)} {vals:List Value},vals.length=R.length→(∀ r∈R,r.1.length=k)→∀ {i:Nat},i<R.length→tabCells (R.set i ((R.getD i ([],[])).1,l)) (vals.set i v)=(tabCells R vals).set (i * (k+1)+k) v
 |[],_,_,_,i,hi=>by simp at hi
 |_::_,[],hl,_,_,_=>by simp at hl
 |r::R,v0::vals,hl,hk,i,hi=>by
  have hr:r.1.length=k:=hk r (List.mem_cons_self ..)
  cases i with
  |zero=>
   rw [List.set_cons_zero,List.set_cons_zero,tabCells_cons,tabCells_cons]
   simp only [List.getD_cons_zero]
   rw [List.set_append_left _ _ (by simp [hr]),List.set_append_right _ _ (by simp [hr])]
   simp [hr]
  |succ i=>
   rw [List.set_cons_succ,List.set_cons_succ,tabCells_cons,tabCells_cons]
   have ih:=tabCells_set (k:=k) (l:=l) (v:=v) (R:=R) (vals:=vals) (by simpa using hl) (fun r' h'=>hk r' (List.mem_cons_of_mem _ h')) (i:=i) (by simpa using hi)
   rw [List.set_append_right _ _ (by simp [hr];rw [Nat.succ_mul];omega)]
   simp only [List.getD_cons_succ]
   rw [ih]
   congr 2
   simp [hr]
   rw [Nat.succ_mul]
   omega
theorem store_fin {o:Oper} {ρ:Operand→Value} {m':Mem Td} (hr:(execOp ρ o).run Try.prog w=.ok .skip w') (hM:MemOk W0 G Id' w' e m'):givesUpon Try.prog (fun v w'=>OutIs Id' W0 G w e (svV undef) v w' (some m')) ((execOp ρ o).run Try.prog w):=by
 rw [hr]
 exact ⟨e,Grows.refl e,rfl,hM⟩
theorem setCells_mod' (b:Nat) (vs:List Value) (o:Nat) (w:World) {F:Nat→Prop} (h:F b):Mod F w (w.setCells b o vs):=(setCells_mod b vs o w).mono fun k _ hk=>by subst hk;exact h
theorem opStoreD_ok {t:TypeId} {us:List CV} {ps:List Prop} {r:SV} {mo:Option (Mem Td)} (h:opStoreD t us mem=some (ps,r,mo)) (hp:∀ p∈ps,p) {o:Oper} {ρ:Operand→Value} {x y:Operand} (ho:o.op=.store t x y) (hM:MemOk W0 G Id' w e mem) (ha:AllC e us [ρ x,ρ y]):
  givesUpon Try.prog (fun v w'=>OutIs Id' W0 G w e r v w' mo) ((execOp ρ o).run Try.prog w):=by
 unfold opStoreD at h
 split at h
 ·rename_i i off V
  obtain ⟨b,oo,hE,hx⟩:=is_one ha.1
  have hy:ρ y=V:=is_one ha.2.1
  split at h
  ·rename_i vs hm
   split at h
   ·rename_i n hn hoff
    obtain rfl:=eqb_eq.1 hoff
    simp only [Option.some.injEq,Prod.mk.injEq] at h
    obtain ⟨rfl,rfl,rfl⟩:=h
    have q1:vs.length=n:=hp _ (List.mem_cons_self ..)
    obtain ⟨q2,q3,q4⟩:AggOk V n:=hp _ (List.mem_cons_of_mem _ (List.mem_cons_self ..))
    obtain ⟨h0,b',t',hv,hb⟩:=hM.holds i _ _ hE hm
    simp only [Value.pointer.injEq,Option.some.injEq,Addr.mk.injEq] at hv
    obtain ⟨rfl,rfl,_⟩:=hv
    rw [Nat.zero_add] at hx
    have hth:w.there b 0 n:=by have:=there_of_blk hb;simpa [q1] using this
    have hst:=bigN_store hn hth q3 q4
    rw [← q2] at hst
    refine store_fin (run_store ho hx (by rw [hy];exact hst)) (hM.upd hE hm (setCells_mod' b _ 0 w ⟨b,rfl,rfl⟩) _ ?_ fun k hk=>?_)
    ·obtain ⟨c',k1,k2,k3⟩:=setCells_blk (cellsV V) 0 w vs.toArray hb (by simp;omega)
     refine ⟨q4,b,t',rfl,?_⟩
     have hc':c'=(cellsV V).toArray:=by
      apply Array.ext'
      simp only [List.toList_toArray] at k3 ⊢
      apply List.ext_getElem?
      intro q
      rw [k3 q]
      by_cases hq:q<n
      ·rw [if_pos (by omega)];rfl
      ·rw [if_neg (by omega),List.getElem?_eq_none (by omega),List.getElem?_eq_none (by omega)]
     rw [k1,hc']
    ·obtain ⟨b2,e2,rfl⟩:=hk
     cases e2
     refine ⟨.inl ⟨_,rfl,rfl⟩,?_⟩
     exact Nat.lt_of_lt_of_le (Array.getElem?_eq_some_iff.1 hb).1 (setCells_mod b _ 0 w).size
   ·cases h
  ·cases h
 ·rename_i i sz idx off q
  obtain ⟨b,oo,n,cap,hE,hi,hx⟩:=is_one ha.1
  have hyq:=is_one ha.2.1
  split at h
  ·rename_i L hm
   split at h
   ·rename_i V hb
    have hy:ρ y=V:=hyq
    simp only [Option.some.injEq,Prod.mk.injEq] at h
    obtain ⟨rfl,rfl,rfl⟩:=h
    obtain ⟨q2,q3,q4⟩:AggOk V 128:=hp _ (List.mem_cons_self ..)
    have q5:cellsV V=(unb (cellsV V)).map bv:=hp _ (List.mem_cons_of_mem _ (List.mem_cons_self ..))
    rw [Bool.and_eq_true,Bool.and_eq_true] at hb
    obtain rfl:=eqb_eq.1 hb.1
    obtain rfl:=eqb_eq.1 hb.2.1
    obtain rfl:=eqb_eq.1 hb.2.2
    obtain ⟨hnn,g,hg,h1,h2,h3⟩:=flat_el (hM.holds i _ _ hE hm) rfl hi
    cases hg
    obtain ⟨z0,B,hB,hown⟩:=hM.holds i _ _ hE hm
    have hi2:=hi.2
    subst hnn
    have hst:=bigN_store (t:=251) rfl h2 q3 q4
    rw [← q2] at hst
    have hsz:=(setCells_mod b (cellsV V) (idx.toNat * 128) w).size
    have hnew:=owns_setEl z0 hown hi2 q3
    have hset:(FL.secs (L.set idx.toNat (unb (cellsV V)))).R=(FL.secs L).R.set idx.toNat (cellsV V):=by
     simp only [FL.R,List.map_set]
     rw [← q5]
    have hx':ρ x=.pointer (some ⟨b,idx.toNat * 128,none⟩):=by rw [hx];simp
    refine store_fin (run_store ho hx' (by rw [hy];exact hst)) (hM.upd hE hm (setCells_mod' b _ _ w rfl) _ ?_ fun k hk=>?_)
    ·refine ⟨fun r hr=>?_,B,Nat.le_trans hB hsz,?_⟩
     ·rw [hset] at hr
      rcases List.mem_or_eq_of_mem_set hr with h|h
      ·exact z0 r h
      ·rw [h];exact q3
     ·rw [hset]
      have:=hnew
      rw [List.length_set] at this ⊢
      exact this
    ·have hk':some b=some k:=hk
     cases hk'
     refine ⟨.inl rfl,?_⟩
     exact Nat.lt_of_lt_of_le (owns_block hown rfl).2 hsz
   ·cases h
  ·rename_i tb hm
   split at h
   ·rename_i j hb
    rw [Bool.and_eq_true,Bool.and_eq_true] at hb
    obtain rfl:=eqb_eq.1 hb.1
    obtain rfl:=eqb_eq.1 hb.2.1
    obtain rfl:=eqb_eq.1 hb.2.2
    have hyj:e[j]? =some (ρ y):=hyq
    have main:∀ (mem:Mem Td) (l:List UInt8),MemOk W0 G Id' w e mem→mem[i]? =some ⟨.us (.ext (.tab tb)),true⟩→mem[j]? =some ⟨.us (.byt l),false⟩→givesUpon Try.prog (fun v w'=>OutIs Id' W0 G w e (svV undef) v w' (some (mem.set i ⟨.us (.ext (.tab (tb.setB idx l))),true⟩))) ((execOp ρ o).run Try.prog w):=fun mem l hM hm hj=>by
     have hbs:Bs w (ρ y) l:=hM.holds j _ _ hyj hj
     obtain ⟨h0,h1,vals,hl,⟨B,hB,hown⟩,hr⟩:=hM.holds i _ _ hE hm
     obtain ⟨ao,cap',he,_,_,_,_,h5⟩:=(Rs.of_owns hown).open
     cases he
     obtain ⟨i1,i2⟩:=hi
     have hvi:vals[idx.toNat]? =some (vals.getD idx.toNat undef):=by rw [List.getD_eq_getElem?_getD,List.getElem?_eq_getElem (by omega)];rfl
     have hcell:=h5 _ rfl _ _ (tabCells_get hl h0 idx.toNat _ hvi)
     rw [Addr.add_mid] at hcell
     have hoo:oo=0:=by
      rcases hown.2 with ⟨hh,_⟩|⟨g,c,cur,hh,_⟩
      ·cases hh
      ·cases hh;rfl
     subst hoo
     rw [Nat.zero_add] at hcell
     have hone:(ρ y).oneCell'=true:=by obtain ⟨_,ao,cap,hv,_⟩:=hbs;rw [hv];rfl
     have hfz:=hown.frozenAt (idx.toNat * (tb.k+1)+tb.k)
     have hx':ρ x=.pointer (some ⟨b,idx.toNat * (tb.k+1)+tb.k,none⟩):=by rw [hx];simp
     have hst:=cell_store (t:=37) (by kernel_rfl) hcell hfz hone
     have hmd:Mod (fun k=>Own Id' w (.slice (some ⟨b,0,none⟩) tb.R.length cap) (.us (.ext (.tab tb))) k) w (w.setCell ⟨b,idx.toNat * (tb.k+1)+tb.k,none⟩ (ρ y)):=Mod.setCell (F:=fun k=>(Value.slice (some ⟨b,0,none⟩) tb.R.length cap).ownBlock=some k) (p:=⟨b,idx.toNat * (tb.k+1)+tb.k,none⟩) (Mod.refl _ w) (fun _=>rfl) _
     obtain ⟨hst1,hst2⟩:=hown.stored (idx.toNat * (tb.k+1)+tb.k) (ρ y)
     have hnew:(w.setCell ⟨b,idx.toNat * (tb.k+1)+tb.k,none⟩ (ρ y)).ownsRow B tb.t (tb.k+1) (.slice (some ⟨b,0,none⟩) tb.R.length cap) (tb.R.set idx.toNat ((elB tb.R idx).1,l)).length (tabCells (tb.R.set idx.toNat ((elB tb.R idx).1,l)) (vals.set idx.toNat (ρ y))):=by
      rw [List.length_set]
      have:=tabCells_set (l:=l) (v:=ρ y) hl h0 i2
      unfold elB
      rw [this]
      exact hst1
     have h0':∀ r∈tb.R.set idx.toNat ((elB tb.R idx).1,l),r.1.length=tb.k:=fun r hr'=>by
      rcases List.mem_or_eq_of_mem_set hr' with h|h
      ·exact h0 r h
      ·rw [h]
       refine h0 (elB tb.R idx) (List.mem_of_getElem? (i:=idx.toNat) ?_)
       unfold elB;rw [List.getD_eq_getElem?_getD,List.getElem?_eq_getElem i2];rfl
     have hl':(vals.set idx.toNat (ρ y)).length=(tb.R.set idx.toNat ((elB tb.R idx).1,l)).length:=by simp [hl]
     have hjf:∀ kk,l≠[]→(ρ y).ownBlock=some kk→b≠kk:=fun kk h1 h2 hb=>by
      subst hb
      have hij:i≠j:=fun e=>by subst e;rw [hm] at hj;cases hj
      exact hM.sep i j _ _ _ _ hE hm rfl hyj hj hij b rfl ⟨h1,h2⟩
     have hbs':Bs (w.setCell ⟨b,idx.toNat * (tb.k+1)+tb.k,none⟩ (ρ y)) (ρ y) l:=by
      by_cases hn:l=[]
      ·rw [hn] at hbs ⊢;exact bs_empty hbs
      ·exact hbs.mod hmd fun kk hk _ hh=>by
        have hh':some b=some kk:=hh
        cases hh'
        exact hjf b hn hk rfl
     refine store_fin (run_store ho hx' hst) (hM.upd3 hE hm hmd ⟨.us (.ext (.tab (tb.setB idx l))),true⟩ ?_ (fun kk hk=>?_) fun kk hk=>.inl hk)
     ·show tabHolds (tb.setB idx l).t (tb.setB idx l).k (tb.setB idx l).R _ _
      obtain ⟨e1,e2,e3⟩:=TB.set_eq tb idx l i2
      rw [e1,e2,e3]
      refine ⟨h0',fun r hr'=>?_,vals.set idx.toNat (ρ y),hl',⟨B,Nat.le_trans hB hmd.size,by simpa using hnew⟩,fun i' v r hv hri=>?_⟩
      ·rcases List.mem_or_eq_of_mem_set hr' with h|h
       ·exact h1 r h
       ·rw [h]
        refine h1 (elB tb.R idx) (List.mem_of_getElem? (i:=idx.toNat) ?_)
        unfold elB;rw [List.getD_eq_getElem?_getD,List.getElem?_eq_getElem i2];rfl
      ·by_cases hii:i'=idx.toNat
       ·subst hii
        rw [List.getElem?_set_self (by omega)] at hv
        rw [List.getElem?_set_self i2] at hri
        cases hv;cases hri
        exact ⟨hbs',fun kk h1 h2 hh=>hjf kk h1 h2 (by cases hh;rfl)⟩
       ·rw [List.getElem?_set_ne (fun e=>hii e.symm)] at hv hri
        obtain ⟨g1,g2⟩:=hr i' v r hv hri
        refine ⟨?_,g2⟩
        by_cases hn:r.2=[]
        ·rw [hn] at g1 ⊢;exact bs_empty g1
        ·exact g1.mod hmd fun kk hk _ hh=>g2 kk hn hk hh
     ·have hk:tabFoot (tb.setB idx l).k (tb.setB idx l).R _ _ kk:=hk
      obtain ⟨e1,e2,e3⟩:=TB.set_eq tb idx l i2
      rw [e1,e3] at hk
      rcases hk with hk|⟨i',r,v,g1,g2,g3,g4⟩
      ·exact ⟨.inl (.inl hk),by have hk':some b=some kk:=hk;cases hk';exact Nat.lt_of_lt_of_le (owns_block hown rfl).2 hmd.size⟩
      ·by_cases hii:i'=idx.toNat
       ·subst hii
        rw [List.getElem?_set_self i2] at g1
        cases g1
        have hat:=tab_at hl' h0' (by simpa using hnew) (i:=idx.toNat) (v:=ρ y) (by rw [List.getElem?_set_self (by omega)])
        have:=tabAt_eq g3 hat
        subst this
        have hsh:Sh Id' w e mem kk:=⟨j,_,_,hyj,hj,⟨g2,g4⟩,fun h=>by cases h⟩
        exact ⟨.inr (.inr hsh),Nat.lt_of_lt_of_le (hsh.lt hM) hmd.size⟩
       ·rw [List.getElem?_set_ne (fun e=>hii e.symm)] at g1
        have hi':i'<vals.length:=by rw [hl];exact (List.getElem?_eq_some_iff.1 g1).1
        have hat:=tab_at hl' h0' (by simpa using hnew) (i:=i') (v:=vals[i']) (by rw [List.getElem?_set_ne (fun e=>hii e.symm)];exact List.getElem?_eq_getElem hi')
        have:=tabAt_eq g3 hat
        subst this
        have hft:Foot Id' w (.slice (some ⟨b,0,none⟩) tb.R.length cap) (.us (.ext (.tab tb))) kk:=.inr ⟨i',r,_,g1,g2,tab_at hl h0 hown (List.getElem?_eq_getElem hi'),g4⟩
        exact ⟨.inl hft,Nat.lt_of_lt_of_le (hM.lt i _ _ hE hm kk hft) hmd.size⟩
    split at h
    ·rename_i l hj
     simp only [Option.some.injEq,Prod.mk.injEq] at h
     obtain ⟨rfl,rfl,rfl⟩:=h
     exact main mem l hM hm hj
    ·rename_i l hj
     simp only [Option.some.injEq,Prod.mk.injEq] at h
     obtain ⟨rfl,rfl,rfl⟩:=h
     have hij:i≠j:=fun e=>by subst e;rw [hm] at hj;cases hj
     obtain ⟨B2,hB2,hown2⟩:=hM.holds j _ _ hyj hj
     exact main _ l (freeze hM hyj hj (bs_own hown2) (fun k hk=>hk)) (by rw [List.getElem?_set_ne (Ne.symm hij)];exact hm) (by rw [List.getElem?_set_self (List.getElem?_eq_some_iff.1 hj).1])
    ·cases h
   ·cases h
  ·rename_i l hm
   split at h
   ·rename_i n' hb hv
    simp only [Option.some.injEq,Prod.mk.injEq] at h
    obtain ⟨rfl,rfl,rfl⟩:=h
    have q1:0≤n'∧n'<256:=hp _ (List.mem_cons_self ..)
    have hy:ρ y=.int .u8 n':=valP_is hv hyq
    rw [Bool.and_eq_true,Bool.and_eq_true] at hb
    obtain rfl:=eqb_eq.1 hb.1
    obtain rfl:=eqb_eq.1 hb.2.1
    obtain rfl:=eqb_eq.1 hb.2.2
    obtain ⟨B,hB,hown⟩:=hM.holds i _ _ hE hm
    obtain ⟨ao,cap',he,_,_,_,_,h5⟩:=(Rs.of_owns hown).open
    cases he
    obtain ⟨i1,i2⟩:=hi
    have hcell:=h5 _ rfl idx.toNat (bv (l.getD idx.toNat 0)) (by rw [List.getElem?_map,List.getD_eq_getElem?_getD,List.getElem?_eq_getElem i2];rfl)
    rw [Addr.add_mid] at hcell
    have hoo:oo=0:=by
     rcases hown.2 with ⟨hh,_⟩|⟨g,c,cur,hh,_⟩
     ·cases hh
     ·cases hh;rfl
    subst hoo
    rw [Nat.zero_add] at hcell
    have hx':ρ x=.pointer (some ⟨b,idx.toNat,none⟩):=by rw [hx];simp
    have hst:=cell_store (t:=5) (v:=.int .u8 n') (by kernel_rfl) hcell (hown.frozenAt idx.toNat) rfl
    have hmd:Mod (fun k=>Own Id' w (.slice (some ⟨b,0,none⟩) l.length cap) (.us (.own l)) k) w (w.setCell ⟨b,idx.toNat,none⟩ (.int .u8 n')):=Mod.setCell (F:=fun k=>(Value.slice (some ⟨b,0,none⟩) l.length cap).ownBlock=some k) (p:=⟨b,idx.toNat,none⟩) (Mod.refl _ w) (fun _=>rfl) _
    obtain ⟨hst1,hst2⟩:=hown.stored idx.toNat (.int .u8 n')
    refine store_fin (run_store ho hx' (by rw [hy];exact hst)) (hM.upd hE hm hmd _ ⟨B,Nat.le_trans hB hmd.size,?_⟩ fun k hk=>?_)
    ·have hb2:bv (UInt8.ofNat n'.toNat)=.int .u8 n':=by
      have h2:((UInt8.ofNat n'.toNat).toNat:Int)=n':=by rw [UInt8.toNat_ofNat'];omega
      show Value.int .u8 ((UInt8.ofNat n'.toNat).toNat:Int)=_
      rw [h2]
     rw [List.length_set,List.map_set,hb2]
     exact hst1
    ·have hk':some b=some k:=hk
     cases hk'
     exact ⟨.inl rfl,Nat.lt_of_lt_of_le (owns_block hown rfl).2 hmd.size⟩
   ·cases h
  ·rename_i l hm
   split at h
   ·rename_i n' hb hv
    simp only [Option.some.injEq,Prod.mk.injEq] at h
    obtain ⟨rfl,rfl,rfl⟩:=h
    have q1:0≤n'∧n'<256:=hp _ (List.mem_cons_self ..)
    have hy:ρ y=.int .u8 n':=valP_is hv hyq
    rw [Bool.and_eq_true,Bool.and_eq_true] at hb
    obtain rfl:=eqb_eq.1 hb.1
    obtain rfl:=eqb_eq.1 hb.2.1
    obtain rfl:=eqb_eq.1 hb.2.2
    obtain ⟨b',t',cur,c,he,hb',h2,h3,h4⟩:=hM.holds i _ _ hE hm
    cases he
    obtain ⟨i1,i2⟩:=hi
    have hcl:idx.toNat<cur.size:=by
     have:=congrArg List.length h4
     simp at this
     omega
    have hcell:w.cell? ⟨b,idx.toNat,none⟩=some cur[idx.toNat]:=by rw [cell_of_blk hb',Array.getElem?_eq_getElem hcl]
    have hx':ρ x=.pointer (some ⟨b,idx.toNat,none⟩):=by rw [hx];simp
    have hst:=cell_store (t:=5) (v:=.int .u8 n') (by kernel_rfl) hcell (frozen_of_blk hb' idx.toNat) rfl
    have hmd:Mod (fun k=>Own Id' w (.slice (some ⟨b,0,none⟩) l.length cap) (.us (.bal l)) k) w (w.setCell ⟨b,idx.toNat,none⟩ (.int .u8 n')):=Mod.setCell (F:=fun k=>(Value.slice (some ⟨b,0,none⟩) l.length cap).ownBlock=some k) (p:=⟨b,idx.toNat,none⟩) (Mod.refl _ w) (fun _=>rfl) _
    refine store_fin (run_store ho hx' (by rw [hy];exact hst)) (hM.upd hE hm hmd _ ⟨b,t',cur.setIfInBounds idx.toNat (.int .u8 n'),cap,by rw [List.length_set],setCell_blk hb',by rw [List.length_set];exact h2,h3,?_⟩ fun k hk=>?_)
    ·have hb2:bv (UInt8.ofNat n'.toNat)=.int .u8 n':=by
      have h2:((UInt8.ofNat n'.toNat).toNat:Int)=n':=by rw [UInt8.toNat_ofNat'];omega
      show Value.int .u8 ((UInt8.ofNat n'.toNat).toNat:Int)=_
      rw [h2]
     rw [List.length_set,List.map_set,hb2,Array.toList_setIfInBounds,←h4,List.take_set]
    ·have hk':some b=some k:=hk
     cases hk'
     exact ⟨.inl rfl,Nat.lt_of_lt_of_le (Array.getElem?_eq_some_iff.1 hb').1 hmd.size⟩
   ·cases h
  ·cases h
 ·cases h
end
end Go.Proofs.Ytiiekgcjilelpaa
